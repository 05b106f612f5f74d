/-
  Texts of this aV joined (wip/gen/bundle.py),those declarations only that are needed:AmP. By an AI agent.
-/
import Derived.Test.YtcjfkbdbcgmomaaGreatDoorSap
set_option linter.unusedSimpArgs false
set_option linter.unusedVariables false
namespace Go.AM
open Go.CK Go.RowKit
structure aj(b:Bool)(A B:Prop):Prop where
 t:b=true->A
 f:b=false->B
theorem aj.yes{b:Bool}{A B:Prop}(h:b=true)(k:A):aj b A B:=⟨λ_=>k,λe=>absurd (h.symm.trans e) (by decide)⟩
theorem aj.no{b:Bool}{A B:Prop}(h:b=false)(k:B):aj b A B:=⟨λe=>absurd (h.symm.trans e) (by decide),λ_=>k⟩
theorem aj.not{b:Bool}{A B:Prop}(k:aj b B A):aj (!b) A B:=⟨λe=>k.f (by simpa using e),λe=>k.t (by simpa using e)⟩
theorem aj.is{p:Prop}[Decidable p]{A B:Prop}(h:p)(k:A):aj (decide p) A B:=.yes (decide_eq_true h) k
theorem aj.isnt{p:Prop}[Decidable p]{A B:Prop}(h:¬p)(k:B):aj (decide p) A B:=.no (decide_eq_false h) k
theorem aj.dec{p:Prop}[Decidable p]{A B:Prop}(h:p->A)(k:¬p->B):aj (decide p) A B:=⟨λe=>h (of_decide_eq_true e),λe=>k (of_decide_eq_false e)⟩
theorem aj.lt{x y:Int}{A B:Prop}(h:x<y->A)(k:y<=x->B):aj (decide (x<y)) A B:=.dec h λe=>k (by omega)
theorem aj.le{x y:Int}{A B:Prop}(h:x<=y->A)(k:y<x->B):aj (decide (x<=y)) A B:=.dec h λe=>k (by omega)
theorem aj.any{b:Bool}{A B:Prop}(h:b=true->A)(k:b=false->B):aj b A B:=⟨h,k⟩
theorem aj.or{b c:Bool}{A B:Prop}(h:aj b A (aj c A B)):aj (b||c) A B:=by
 cases b
 .exact h.f rfl
 .exact .yes rfl (h.t rfl)
structure cy(p K:Prop):Prop where
 p:p
 k:K
structure Szs(z:Nat)(l:List AV):Prop where
 out:∀y∈l,y.cells.length=z
theorem Szs.nil{z:Nat}:Szs z []:=⟨λ_ h=>by cases h⟩
theorem Szs.cons{z:Nat}{x:AV}{l:List AV}(h:x.cells.length=z)(k:Szs z l):Szs z (x::l):=⟨λy hy=>by rcases zI.1 hy with rfl|hy;exact h;exact k.out y hy⟩
theorem Szs.app{z:Nat}{l m:List AV}(h:Szs z l)(k:Szs z m):Szs z (l++m):=⟨λy hy=>by rcases zZ.1 hy with hy|hy;exact h.out y hy;exact k.out y hy⟩
theorem Szs.map{α:Type}{z:Nat}{f:α->AV}{l:List α}(h:∀x,(f x).cells.length=z):Szs z (l.map f):=⟨λy hy=>by obtain⟨x,_,rfl⟩:=zl.1 hy;exact h x⟩
theorem Szs.take{z:Nat}{l:List AV}(h:Szs z l)(n:Nat):Szs z (l.take n):=⟨λy hy=>h.out y (List.mem_of_mem_take hy)⟩
theorem Szs.drop{z:Nat}{l:List AV}(h:Szs z l)(n:Nat):Szs z (l.drop n):=⟨λy hy=>h.out y (List.mem_of_mem_drop hy)⟩
theorem Szs.rep{z n:Nat}{x:AV}(h:x.cells.length=z):Szs z (List.replicate n x):=⟨λy hy=>by rw[(Zb.1 hy).2];exact h⟩
theorem Szs.set{z:Nat}{l:List AV}(h:Szs z l){x:AV}(hx:x.cells.length=z)(i:Nat):Szs z (l.set i x):=⟨λy hy=>by rcases List.mem_or_eq_of_mem_set hy with hy|rfl;exact h.out y hy;exact hx⟩
structure eg(sz:Nat)(l:List AV)(n:Int)(K:AV->Prop):Prop where
 out:∃y,(0<=n/\l[n.toNat]? =some y/\y.cells.length=sz)/\K y
theorem eg.known{α:Type}{f:α->AV}{sz:Nat}{l:List α}{n:Int}{K:AV->Prop}{x:α}(h:l[n.toNat]? =some x)(h0:0<=n)(hs:∀x,(f x).cells.length=sz)(k:K (f x)):eg sz (l.map f) n K:=
 ⟨f x,⟨h0,by rw[ZG,h];rfl,hs x⟩,k⟩
theorem eg.map{α:Type}{f:α->AV}{sz:Nat}{l:List α}{n:Int}{K:AV->Prop}(h0:0<=n)(h1:n<l.length)(hs:∀x,(f x).cells.length=sz)(k:∀x,l[n.toNat]? =some x->K (f x)):eg sz (l.map f) n K:=
 have hx:l[n.toNat]? =some (l[n.toNat]'(by omega)):=zA (by omega)
 .known hx h0 hs (k _ hx)
theorem eg.KF{α:Type}{f:α->AV}{sz:Nat}{l:List α}{n:Nat}{K:AV->Prop}{x:α}(h:l[n]? =some x)(hs:∀x,(f x).cells.length=sz)(k:K (f x)):eg sz (l.map f) (n:Int) K:=.known (by simpa using h) (by omega) hs k
theorem eg.Lo{α:Type}{f:α->AV}{sz:Nat}{l:List α}{n:Nat}{K:AV->Prop}(h1:n<l.length)(hs:∀x,(f x).cells.length=sz)(k:∀x,l[n]? =some x->K (f x)):eg sz (l.map f) (n:Int) K:=.map (by omega) (by omega) hs λx hx=>k x (by simpa using hx)
structure EV(b:ByteArray)(n:Int)(K:Int->Prop):Prop where
 out:∃y,(0<=n/\b[n.toNat]? =some y)/\K y.toNat
structure mL(k:IntKind)(n:Int)(K:Int->Prop):Prop where
 out:K (k.wrap n)
theorem mL.i64{n:Int}{K:Int->Prop}(h:-9223372036854775808<=n/\n<=9223372036854775807)(k:K n):mL .i64 n K:=⟨by rw[IntWalk.i64_in n ⟨h.1,h.2⟩];exact k⟩
structure Cz(l:List AV)(K:Int->Prop):Prop where
 out:K l.length
theorem Cz.map{α:Type}{f:α->AV}{l:List α}{K:Int->Prop}(h:K l.length):Cz (l.map f) K:=⟨by rw[zF];exact h⟩
theorem Cz.nil{K:Int->Prop}(h:K 0):Cz [] K:=⟨h⟩
def KY(op:BinOp)(a b:AV)(K:AV->Prop):Prop:=
 match a,b with
 |.int k x,.int k' y=>req (decide (k=k')) (match op with
  |.add=>mL k (x+y) λn=>K (.int k n)
  |.sub=>mL k (x-y) λn=>K (.int k n)
  |.mul=>mL k (x*y) λn=>K (.int k n)
  |.quo=>cy (y≠0) (mL k (x.tdiv y) λn=>K (.int k n))
  |.rem=>cy (y≠0) (K (.int k (x.tmod y)))
  |.shr=>cy (0<=y) (K (.int k (x/2^min y.toNat k.bits)))
  |.eql=>K (.bool (decide (x=y)))
  |.neq=>K (.bool (!decide (x=y)))
  |.lss=>K (.bool (decide (x<y)))
  |.leq=>K (.bool (decide (x<=y)))
  |.gtr=>K (.bool (decide (y<x)))
  |.geq=>K (.bool (decide (y<=x)))
  |_=>False)
 |.str x,.str y=>match op with
  |.add=>cy (x.size+y.size<=lim) (K (.str (x++y)))
  |.eql=>K (.bool (decide (x=y)))
  |.neq=>K (.bool (!decide (x=y)))
  |op=>y7 op (.str x) (.str y) K
 |a,b=>y7 op a b K
theorem KX{op:BinOp}{a b:AV}{K:AV->Prop}(h:KY op a b K):y7 op a b K:=by
 unfold KY at h;split at h
 .unfold y7;obtain⟨h1,h2⟩:=af.1 h;refine af.2 ⟨h1,?_⟩;cases op<;>first|exact h2|exact h2.out|exact⟨h2.p,h2.k.out⟩|exact⟨h2.p,h2.k⟩
 .split at h
  .exact ⟨h.p,h.k⟩
  .exact h
  .exact h
  .exact h
 .exact h
def Ka(sz:Nat)(x:AV)(lo hi mx:Option AV)(K:AV->Prop):Prop:=
 match x with
 |.sl _ l=>bnd lo 0 λa=>bnd hi l.length λb=>match mx with
  |none=>cy (Szs sz l) (cy (0<=a/\a<=b/\b<=l.length) (K (.sl .no ((l.take b.toNat).drop a.toNat))))
  |some _=>bnd mx 0 λm=>cy (Szs sz l) (cy (0<=a/\a<=b/\b=m/\m<=l.length) (K (.sl .full ((l.take b.toNat).drop a.toNat))))
 |.bsl b m k=>bnd lo 0 λa=>bnd hi m λc=>match mx with
  |none=>cy (a=0/\0<=c/\c<=k/\c<=4294967296) (K (.bsl b c.toNat k))
  |some _=>bnd mx 0 λq=>cy (a=0/\0<=c/\c<=q/\q<=k/\c<=4294967296) (K (.bsl b c.toNat q.toNat))
 |_=>False
theorem J9{sz:Nat}{x:AV}{lo hi mx:Option AV}{K:AV->Prop}(h:Ka sz x lo hi mx K):CN sz x lo hi mx K:=by
 unfold Ka at h;unfold CN;split at h
 .refine bW (λa ha=>bW (λb hb=>?_) ha) h;split at hb
  .exact ⟨⟨hb.p.out,hb.k.p⟩,hb.k.k⟩
  .exact bW (λm hm=>⟨⟨hm.p.out,hm.k.p⟩,hm.k.k⟩) hb
 .refine bW (λa ha=>bW (λb hb=>?_) ha) h;split at hb
  .exact ⟨hb.p,hb.k⟩
  .exact bW (λm hm=>⟨hm.p,hm.k⟩) hb
 .exact h.elim
def G9(g:mC)(ae:List AV)(K:AV->Prop):Prop:=
 match g,ae with
 |.cap,[.sl .full l]=>Cz l λn=>K (.int .i64 n)
 |g,ae=>match g.val ae with
  |some (.ok r)=>K r
  |some (.need p r)=>cy p (K r)
  |none=>False
theorem Ep{g:mC}{ae:List AV}{K:AV->Prop}(h:G9 g ae K):dj g ae K:=by
 unfold G9 at h;unfold dj;split at h
 .exact h.out
 .split at h
  .rename_i r hg;simp only[hg];exact h
  .rename_i p r hg;simp only[hg];exact⟨h.p,h.k⟩
  .exact h.elim
def RX.pP(rx:RX)(ev:Opd->AV)(rd:AV->Option (List AV))(K:AV->Prop):Prop:=
 match rx with
 |.pick c a b=>match ev c with
  |.bool t=>aj t (K (ev a)) (K (ev b))
  |_=>False
 |.idx sz x i=>match ev x,ev i with
  |.sl _ l,.int _ n=>eg sz l n λy=>K (.ept y.cells)
  |.bsl b m _,.int _ n=>cy (0<=n/\n<m) (K (.elp b n.toNat sz 0))
  |_,_=>False
 |.oW x i=>match ev x,ev i with
  |.str b,.int _ n=>EV b n λy=>K (.int .u8 y)
  |_,_=>False
 |.len str o=>match str,ev o with
  |false,.sl _ l=>Cz l λn=>K (.int .i64 n)
  |false,.bsl _ m _=>K (.int .i64 m)
  |false,.lit _ m _=>K (.int .i64 m)
  |true,.str b=>K (.int .i64 b.size)
  |_,_=>False
 |.un op o=>match op,ev o with
  |.neg,.int k n=>mL k (0-n) λn=>K (.int k n)
  |.not,.bool b=>K (.bool (!b))
  |_,_=>False
 |.conv k o=>match k,ev o with
  |some k,.int _ n=>mL k n λn=>K (.int k n)
  |none,.str b=>K (.str b)
  |_,_=>False
 |.bin op x y=>KY op (ev x) (ev y) K
 |.mk sz z l c=>match ev l,ev c with
  |.int _ n,.int _ m=>cy (0<=n/\n<=m/\m<=4294967296) (K (.sl (.own sz) (List.replicate n.toNat z)))
  |_,_=>False
 |.iR mx x y=>match ev x,ev y with
  |.int k a,.int k' b=>req (decide (k=k')) (match mx with
   |true=>K (.int k (max a b))
   |false=>K (.int k (min a b)))
  |_,_=>False
 |.yn ln sz x i=>match ev i with
  |.int _ n=>req (Bo (ev x)) (cy (0<=n/\n<(ln:Int)) (K (su (n.toNat*sz) (ev x))))
  |_=>False
 |.slc sz x lo hi mx=>Ka sz (ev x) (lo.map ev) (hi.map ev) (mx.map ev) K
 |.more g args=>G9 g (evs ev args) K
 |.aZ sz rs=>dU ev sz rs λl=>fvs l λl=>K (.sl .full l)
 |rx=>rx.pK ev rd K
theorem RX.rX{rx:RX}{ev:Opd->AV}{rd:AV->Option (List AV)}{K:AV->Prop}(h:rx.pP ev rd K):rx.pK ev rd K:=by
 cases rx<;>try exact h
 .simp only[RX.pP,RX.pK,mmK] at h|-;split at h
  .rename_i mx _ _ _ _ _ _ _ _ h1 h2;rw[h1,h2];simp only;obtain⟨h3,h4⟩:=af.1 h;refine af.2 ⟨h3,?_⟩;cases mx<;>exact h4
  .exact h.elim
 .simp only[RX.pP,RX.pK,wC] at h|-;split at h
  .rename_i h1;rw[h1];simp only;obtain⟨h3,h4⟩:=af.1 h;exact af.2 ⟨h3,h4.p,h4.k⟩
  .exact h.elim
 .exact J9 h
 .simp only[RX.pP,RX.pK,vW] at h|-;split at h
  .rename_i h1;rw[h1];exact⟨h.t,h.f⟩
  .exact h.elim
 .simp only[RX.pP,RX.pK,FC] at h|-;split at h
  .rename_i h1 h2;rw[h1,h2];exact h.out
  .rename_i h1 h2;rw[h1,h2];exact⟨h.p,h.k⟩
  .exact h.elim
 .simp only[RX.pP,RX.pK,wB] at h|-;split at h
  .rename_i h1 h2;rw[h1,h2];exact h.out
  .exact h.elim
 .simp only[RX.pP,RX.pK,Fu] at h|-;split at h
  .rename_i h1;rw[h1];exact h.out
  .rename_i h1;rw[h1];exact h
  .rename_i h1;rw[h1];exact h
  .rename_i h1;rw[h1];exact h
  .exact h.elim
 .simp only[RX.pP,RX.pK,unK] at h|-;split at h
  .rename_i h1;rw[h1];exact h.out
  .rename_i h1;rw[h1];exact h
  .exact h.elim
 .simp only[RX.pP,RX.pK,wQ] at h|-;split at h
  .rename_i h1;rw[h1];exact h.out
  .rename_i h1;rw[h1];exact h
  .exact h.elim
 .exact KX h
 .simp only[RX.pP,RX.pK,HJ] at h|-;exact h
 .simp only[RX.pP,RX.pK,mkK] at h|-;split at h
  .rename_i h1 h2;rw[h1,h2];exact⟨h.p,h.k⟩
  .exact h.elim
 .exact Ep h
def K3(z:Nat)(s:St)(o:Opd)(x:AV)(K:AV->St->Prop):Prop:=
 match x with
 |.sl _ xs=>match o with
  |.t t=>match s.get t with
   |.sl (.own z') l=>req (Nat.beq z z') (cy (Szs z xs) (cy (l.length+xs.length<=glim) (K (.sl (.own z) (l++xs)) (s.put (some t) (.sl .no l)))))
   |.sl .full l=>cy (Szs z (l++xs)) (cy (l.length+xs.length<=glim) (K (.sl (.own z) (l++xs)) s))
   |_=>False
  |.c (.sl .full l)=>cy (Szs z (l++xs)) (cy (l.length+xs.length<=glim) (K (.sl (.own z) (l++xs)) s))
  |_=>False
 |_=>False
theorem K2{z:Nat}{s:St}{o:Opd}{x:AV}{K:AV->St->Prop}(h:K3 z s o x K):fH z s o x K:=by
 unfold K3 at h;unfold fH;split at h
 .split at h
  .split at h
   .rename_i h1;simp only[h1];obtain⟨h3,h4⟩:=af.1 h;exact af.2 ⟨h3,⟨h4.p.out,h4.k.p⟩,h4.k.k⟩
   .rename_i h1;simp only[h1];exact⟨⟨h.p.out,h.k.p⟩,h.k.k⟩
   .exact h.elim
  .exact ⟨⟨h.p.out,h.k.p⟩,h.k.k⟩
  .exact h.elim
 .exact h.elim
structure JG(P:Program)(f:FuncId)(K:Prop):Prop where
 h:dS P f=true
 k:K
structure ku(bs:List Box)(b:Nat)(K:List AV->Prop):Prop where
 out:∃cs,aa bs b=some cs/\K cs
structure dG(bs:List Box)(b:Nat)(cs:List AV)(K:List Box->Prop):Prop where
 out:K (bs.set b (.cells cs))
theorem ku.of{bs:List Box}{b:Nat}{K:List AV->Prop}{cs:List AV}(h:aa bs b=some cs)(k:K cs):ku bs b K:=⟨cs,h,k⟩
theorem ku.last{bs:List Box}{K:List AV->Prop}{cs:List AV}(k:K cs):ku (bs++[.cells cs]) bs.length K:=.of (by rw[al,if_pos rfl];rfl) k
theorem ku.last2{bs:List Box}{K:List AV->Prop}{cs:List AV}{x:Box}(k:K cs):ku ((bs++[.cells cs])++[x]) bs.length K:=.of (by rw[al,if_neg (by simp),al,if_pos rfl];rfl) k
theorem dG.last{bs:List Box}{c:Box}{cs:List AV}{K:List Box->Prop}(k:K (bs++[.cells cs])):dG (bs++[c]) bs.length cs K:=⟨by simpa using k⟩
def ldK(agg:Bool)(n:Nat)(l:List AV)(K:AV->Prop):Prop:=
 match agg with
 |true=>req (Nat.ble n l.length) (K (.agg ((l.map AV.aG).take n)))
 |false=>match l with
  |c::_=>match c with
   |.sl (.own _) _=>False
   |c=>K c
  |[]=>False
theorem wm{s:St}{b off:Nat}{cs:List AV}(hb:aa s.bs b=some cs){agg:Bool}{n:Nat}{K:AV->Prop}(h:ldK agg n (cs.drop off) K):bL agg n (s.rd (.ptr b off)) K:=by
 unfold ldK at h;simp only[St.rd,hb,bL]
 cases agg with
 |true=>simpa using h
 |false=>
  simp only at h|-
  cases hc:cs.drop off with
  |nil=>rw[hc] at h;exact h.elim
  |cons c r=>
   rw[hc] at h;simp only[zQ]
   cases c with
   |sl o l=>cases o with
    |own z=>exact h.elim
    |_=>exact h
   |_=>exact h
theorem Dh{s:St}{b off:Nat}{cs:List AV}(hb:aa s.bs b=some cs){agg:Bool}{n:Nat}{d:Option Nat}{K:St->Prop}(h:ldK agg n (cs.drop off) λr=>K (s.put d r)):eO agg n s d (.ptr b off) K:=by
 have h2:=wm (s:=s) hb h;unfold eO;split
 .rename_i t b' off' he;cases he;have hat:s.at (.bx b off)=cs[off]?:=by simp[St.at,hb]
  rw[hat];split
  .rename_i z l hz;have hlt:off<cs.length:=(zB.1 hz).1
   have:cs.drop off=.sl (.own z) l::cs.drop (off+1):=by
    rw[zH hlt,(zB.1 hz).2]
   rw[this] at h;exact h.elim
  .exact h2
 .exact h2
def stV(s:St)(x:Opd):Bool:=match x with
 |.t k=>match s.get k with
  |.sl (.own _) _=>false
  |_=>true
 |_=>true
def stK(n:Nat)(s:St)(b off:Nat)(v:AV)(K:St->Prop):Prop:=ku s.bs b λcs=>req (aW v&&(Nat.beq v.cells.length n&&Nat.ble (off+n) cs.length)) (fsq (setAt cs off v.cells) λcs=>dG s.bs b cs λbs=>K (s.wb bs))
theorem oJ{n:Nat}{s:St}{b off:Nat}{v:AV}{K:St->Prop}(h:stK n s b off v K):bQ n s (.ptr b off) v K:=by
 obtain⟨cs,h1,h2⟩:=h.out;obtain⟨h3,h4⟩:=af.1 h2;simp only[bQ,h1];rw[Dy] at h4;have h5:=h4.out;rw[St.DY] at h5;exact af.2 ⟨h3,h5⟩
def stO(s:St)(x:Opd):Option (Nat×Nat×List AV):=match x with
 |.t k=>match s.get k with
  |.sl (.own z) l=>some (k,z,l)
  |_=>none
 |_=>none
def Ld(n:Nat)(s:St)(b off k z:Nat)(l:List AV)(K:St->Prop):Prop:=req (Nat.beq n 1) (ku s.bs b λcs=>req (Nat.blt off cs.length) (fsq (cs.set off (.sl (.own z) l)) λcs=>dG s.bs b cs λbs=>K ((s.wb bs).pt (some k) (.sl .no l))))
theorem GD{s:St}{x:Opd}(h:stO s x=none):stV s x=true:=by
 unfold stO at h;unfold stV
 cases x with
 |t k=>
  simp only at h|-;split
  .rename_i z l hg;rw[hg] at h;cases h
  .rfl
 |c v=>rfl
theorem xD{n:Nat}{s:St}{b off k z:Nat}{l:List AV}{x:Opd}{K:St->Prop}(hx:stO s x=some (k,z,l))(h:Ld n s b off k z l K):gn n s (.ptr b off) x K:=by
 obtain⟨h0,h⟩:=af.1 h;obtain rfl:=zP h0;obtain⟨cs,h1,h2⟩:=h.out;obtain⟨h3,h4⟩:=af.1 h2;rw[Dy] at h4;have h5:=h4.out;rw[St.DY,St.om] at h5;unfold stO at hx
 cases x with
 |c v=>cases hx
 |t k'=>
  simp only at hx;split at hx
  .rename_i z' l' hg;cases hx;simp only[gn,hg,h1];refine af.2 ⟨h3,?_⟩;obtain⟨e,bs,lo⟩:=s;have h6:aa (bs.set b (.cells (cs.set off (.sl .no l)))) b=some (cs.set off (.sl .no l)):=by rw[aS h1,if_pos rfl]
   simp only[St.aF,St.upd,h6,List.set_set] at h5|-;exact h5
  .cases hx
theorem Ap{n:Nat}{s:St}{b off:Nat}{x:Opd}{K:St->Prop}(hx:stV s x=true)(h:stK n s b off (s.ev x) K):gn n s (.ptr b off) x K:=by
 have h2:=oJ h;unfold gn;split
 .rename_i b' off' k he;cases he;split
  .rename_i z l hg;simp[stV,hg] at hx
  .exact h2
 .rename_i he;cases he
 .exact h2
structure DX(z:Nat)(s:St)(x y:AV)(K:AV->St->Prop):Prop where
 out:sk z s x y K
structure ZerN(z:Nat)(s:St)(x y:AV)(K:AV->St->Prop):Prop where
 out:uV z s x y K
structure IA(l:List AV)(K:Bool->Prop):Prop where
 out:(l≠[]->K false)/\(l=[]->∀b,K b)
structure MkN(z:Nat)(zx:AV)(s:St)(l c:AV)(K:AV->St->Prop):Prop where
 out:mkB z zx s l c K
structure Gb(l:List (Int×AV))(n:Int)(ok:Bool)(z:AV)(K:AV->Prop):Prop where
 out:match np l n with
  |some x=>cM x=true/\K (okR ok x true)
  |none=>K (okR ok z false)
structure MqN(l:List (Int×AV×Nat))(n:Int)(ok:Bool)(z:AV)(K:AV->Prop):Prop where
 out:match GU l n with
  |some x=>cM x=true/\K (okR ok x true)
  |none=>K (okR ok z false)
structure EntN(zx:AV)(s:St)(m k:AV)(K:AV->St->Prop):Prop where
 out:um zx s m k K
structure StoN(s:St)(m j v:AV)(K:St->Prop):Prop where
 out:sV s m j v K
structure u9(z:Nat)(ae:List AV)(s:St)(K:AV->St->Prop):Prop where
 out:Jy z ae s K
structure SsN(ks:List FK)(s:St)(m k v:AV)(K:St->Prop):Prop where
 out:GJ ks s m k v K
structure SgN(ks:List FK)(ok:Bool)(z:AV)(s:St)(m k:AV)(K:AV->Prop):Prop where
 out:HH ks ok z s m k K
structure TbN(e:TbE)(ae:List AV)(s:St)(d:Option Nat)(K:St->Prop):Prop where
 out:tbK e ae s d K
def Lf(x n:AV)(s:St)(d:Option Nat)(K:St->Prop):Prop:=
 match x,n with
 |.sl .full [],.int _ n=>cy (n=0) (K (s.put d (.sl .full [])))
 |_,_=>False
structure DU(bs:List Box)(b:Nat)(K:List (Int×AV)->Prop)(Kq:List (Int×AV×Nat)->Nat->Prop):Prop where
 out:(∃l,bs[b]? =some (.mp l)/\K l)\/(∃l c,bs[b]? =some (.mq l c)/\Kq l c)
theorem DU.of{bs:List Box}{b:Nat}{K:List (Int×AV)->Prop}{Kq:List (Int×AV×Nat)->Nat->Prop}{l:List (Int×AV)}(h:bs[b]? =some (.mp l))(k:K l):DU bs b K Kq:=⟨.inl ⟨l,h,k⟩⟩
def JJ(s:St)(m k v:AV)(K:St->Prop):Prop:=
 match m,k with
 |.mpt b,.int .i64 n=>match s with
  |⟨e,bs,lo⟩=>DU bs b (λl=>cy (cM v=true) (K ⟨e,bs.set b (.mp (kd l n v)),lo⟩)) λl c=>cy (cM v=true) (K ⟨e,bs.set b (.mq (vj l n v c) (AP l n c)),lo⟩)
 |_,_=>False
def JQ(ok:Bool)(z:AV)(s:St)(m k:AV)(K:AV->Prop):Prop:=
 match m,k with
 |.mpt b,.int .i64 n=>match s with
  |⟨_,bs,_⟩=>DU bs b (λl=>Gb l n ok z K) λl _=>MqN l n ok z K
 |.nmp,.int .i64 _=>K (okR ok z false)
 |_,_=>False
def Jc(s:St)(d:Option Nat)(K:St->Prop):Prop:=match s with
 |⟨e,bs,lo⟩=>K (St.pt ⟨e,bs++[.mp []],lo⟩ d (.mpt bs.length))
theorem Jb{s:St}{d:Option Nat}{K:St->Prop}:Jc s d K=Jd s d K:=by cases s;simp only[Jc,Jd,St.om]
def Ja(s:St)(d:Option Nat)(o:Opd)(K:St->Prop):Prop:=
 match o with
 |.c x=>K (s.pt d x)
 |.t t=>match s.get t with
  |.sl (.own z) l=>match d with
   |some d=>req (!(Nat.beq d t)) (K (((s.pt (some d) (.sl .no l)).pt (some t) (.sl .no l)).pt (some d) (.sl (.own z) l)))
   |none=>False
  |x=>K (s.pt d x)
theorem I9{s:St}{d:Option Nat}{o:Opd}{K:St->Prop}:Ja s d o K=sb s d o K:=by
 unfold Ja sb;simp only[St.om];rfl
def KU(s:St)(d:Option Nat)(x:AV)(K:St->Prop):Prop:=match s with
 |⟨e,bs,lo⟩=>req (aW x) (fsq x.cells λcs=>K (St.pt ⟨e,bs++[.cells cs],lo⟩ d (.ptr bs.length 0)))
theorem Jz{s:St}{d:Option Nat}{x:AV}{K:St->Prop}:KU s d x K=F3 s x λr s'=>K (s'.put d r):=by
 cases s;simp only[KU,F3,Dy,St.om,St.gj]
def KN(e:Eff)(ae:List AV)(s:St)(d:Option Nat)(K:St->Prop):Prop:=
 match e,ae with
 |.sk z,[x,y]=>DX z s x y λr s'=>K (s'.pt d r)
 |.uV z,[x,y]=>ZerN z s x y λr s'=>K (s'.pt d r)
 |.slN,[x,n]=>Lf x n s d K
 |.mkM,[]=>Jc s d K
 |.mkM,[.int _ _]=>Jc s d K
 |.GK,[m,k,v]=>JJ s m k v K
 |.getM ok zx,[m,k]=>JQ ok zx s m k λr=>K (s.pt d r)
 |.mkB z zx,[l,c]=>MkN z zx s l c λr s'=>K (s'.pt d r)
 |.KL zx,[m,k]=>EntN zx s m k λr s'=>K (s'.pt d r)
 |.J6,[m,j,v]=>StoN s m j v K
 |.bsR z,ae=>u9 z ae s λr s'=>K (s'.pt d r)
 |.A4 neg,[.sl _ l]=>IA l λb=>K (s.pt d (.bool (bU neg b)))
 |.Kc ks,[m,k,v]=>SsN ks s m k v K
 |.KI ks ok zx,[m,k]=>SgN ks ok zx s m k λr=>K (s.pt d r)
 |.tab e,ae=>TbN e ae s d K
 |_,_=>False
theorem KM{e:Eff}{ae:List AV}{s:St}{d:Option Nat}{K:St->Prop}(h:KN e ae s d K):qW e ae s d K:=by
 unfold KN at h;simp only[St.om,Jb] at h;unfold qW;split at h
 .exact h.out
 .exact h.out
 .unfold Lf at h;unfold CO;split at h
  .exact ⟨h.p,h.k⟩
  .exact h.elim
 .exact h
 .exact h
 .unfold JJ at h;unfold s9;split at h
  .obtain ⟨e,bs,lo⟩:=s;rcases h.out with ⟨l,hb,h2⟩|⟨l,c,hb,h2⟩<;>simp only[hb]<;>exact⟨h2.p,h2.k⟩
  .exact h.elim
 .unfold JQ at h;unfold ue;split at h
  .obtain ⟨e,bs,lo⟩:=s;rcases h.out with ⟨l,hb,h2⟩|⟨l,c,hb,h2⟩<;>simp only[hb]<;>exact h2.out
  .exact h
  .exact h.elim
 .exact h.out
 .exact h.out
 .exact h.out
 .exact h.out
 .exact h.out
 .exact h.out
 .exact h.out
 .exact h.out
 .exact h.elim
structure ElN(agg:Bool)(n:Nat)(s:St)(p:AV)(K:AV->Prop):Prop where
 out:bL agg n (s.rd p) K
structure EsN(n:Nat)(s:St)(b i z off:Nat)(v:AV)(K:St->Prop):Prop where
 out:nR n s b i z off v K
def RX.gp(P:Program)(fb dr:Bool)(rx:RX)(s:St)(d:Option Nat)(K:St->Prop):Prop:=
 match rx with
 |.call f args=>uJ P dr s d (s.ev f) (evs s.ev args) K
 |.dP f args=>match s.ev f with
  |.fn (.func k) xs ys=>JG P k (uJ P dr s d (.fn (.func k) xs ys) (evs s.ev args) K)
  |.yl b=>uJ P dr s d (.yl b) (evs s.ev args) K
  |_=>False
 |.mov o=>match dr with
  |true=>K (s.pt d (s.ev o))
  |false=>Ja s d o K
 |.take t=>Ja s d (.t t) K
 |.box o=>KU s d (s.ev o) K
 |.load agg n o=>match s.ev o with
  |.elp b i z off=>ElN agg n s (.elp b i z off) λr=>K (s.pt d r)
  |p=>match fb with
   |true=>match dr with
    |true=>bL agg n (s.rd p) λr=>K (s.pt d r)
    |false=>eO agg n s d p K
   |false=>match p with
    |.ptr b off=>ku s.bs b λcs=>ldK agg n (cs.drop off) λr=>K (s.pt d r)
    |p=>match dr with
     |true=>bL agg n (s.rd p) λr=>K (s.pt d r)
     |false=>eO agg n s d p K
 |.store n p x=>match s.ev p with
  |.elp b i z off=>match dr with
   |true=>False
   |false=>EsN n s b i z off (s.ev x) K
  |q=>match fb with
   |true=>match dr with
    |true=>bQ n s q (s.ev x) K
    |false=>gn n s q x K
   |false=>match q with
    |.ptr b off=>match dr with
     |true=>stK n s b off (s.ev x) K
     |false=>match stO s x with
      |some (k,z,l)=>Ld n s b off k z l K
      |none=>stK n s b off (s.ev x) K
    |_=>False
 |.stn bnd n p x=>match dr with
  |true=>match s.ev p with
   |.ptr b off=>req (Nat.ble bnd b) (match fb with
    |true=>bQ n s (.ptr b off) (s.ev x) K
    |false=>req (stV s x) (stK n s b off (s.ev x) K))
   |_=>False
  |false=>False
 |.append z o x=>K3 z s o (s.ev x) λr s'=>K (s'.pt d r)
 |.eff e args=>match dr with
  |true=>False
  |false=>KN e (evs s.ev args) s d K
 |rx=>rx.pP s.ev s.rd λr=>K (s.pt d r)
theorem RX.mj{P:Program}{fb dr:Bool}{rx:RX}{s:St}{d:Option Nat}{K:St->Prop}(h:rx.gp P fb dr s d K):rx.run P dr s d K:=by
 unfold RX.gp at h;simp only[St.om,I9,Jz] at h
 cases rx with
 |call f args=>cases dr<;>simpa only[RX.gp,RX.run,uI] using h
 |dP f args=>
  simp only[RX.gp] at h;simp only[RX.run];split at h
  .rename_i k xs ys he;rw[he];have h2:=h.k;rw[uI] at h2;exact⟨h.h,by cases dr<;>exact h2⟩
  .rename_i b he;rw[he];rw[uI] at h;exact⟨trivial,by cases dr<;>exact h⟩
  .exact h.elim
 |append z o x=>exact K2 (K:=λr s'=>K (s'.put _ r)) h
 |mov|take|box=>exact h
 |eff e args=>
  cases dr with
  |true=>exact h.elim
  |false=>exact KM h
 |load agg n o=>
  simp only[RX.gp,RX.run] at h|-;split at h
  .rename_i b i z off he;rw[he];have h2:=h.out
   cases dr with
   |true=>exact h2
   |false=>cases agg<;>cases d<;>exact h2
  .cases fb with
   |true=>exact h
   |false=>
    simp only at h;split at h
    .rename_i b off he;obtain⟨cs,h1,h2⟩:=h.out;rw[he]
     cases dr with
     |true=>exact wm h1 h2
     |false=>exact Dh h1 h2
    .exact h
 |store n p x=>
  simp only[RX.gp,RX.run] at h|-;split at h
  .rename_i b i z off he;rw[he]
   cases dr with
   |true=>exact h.elim
   |false=>
    have h2:=h.out;rcases n with _|_|n<;>first|exact h2|(cases x<;>exact h2)
  .cases fb with
   |true=>exact h
   |false=>
    simp only at h;split at h
    .rename_i b off he;rw[he]
     cases dr with
     |true=>exact oJ h
     |false=>
      simp only at h;split at h
      .rename_i k z l hx;exact xD hx h
      .rename_i hx;exact Ap (GD hx) h
    .exact h.elim
 |stn bnd n p x=>
  cases dr with
  |false=>exact h.elim
  |true=>
   simp only[RX.gp,RX.run,ve] at h|-;split at h
   .rename_i b off he;rw[he];obtain⟨h1,h2⟩:=af.1 h;refine af.2 ⟨h1,?_⟩
    cases fb with
    |true=>exact h2
    |false=>exact oJ (af.1 h2).2
   .exact h.elim
 |iR mx x y=>exact RX.rX (rx:=.iR mx x y) (ev:=s.ev) (rd:=s.rd) (K:=λr=>K (s.put _ r)) h
 |yn a b x i=>exact RX.rX (rx:=.yn a b x i) (ev:=s.ev) (rd:=s.rd) (K:=λr=>K (s.put _ r)) h
 |slc a b c d e=>exact RX.rX (rx:=.slc a b c d e) (ev:=s.ev) (rd:=s.rd) (K:=λr=>K (s.put _ r)) h
 |pick a b c=>exact RX.rX (rx:=.pick a b c) (ev:=s.ev) (rd:=s.rd) (K:=λr=>K (s.put _ r)) h
 |idx a b c=>exact RX.rX (rx:=.idx a b c) (ev:=s.ev) (rd:=s.rd) (K:=λr=>K (s.put _ r)) h
 |oW a b=>exact RX.rX (rx:=.oW a b) (ev:=s.ev) (rd:=s.rd) (K:=λr=>K (s.put _ r)) h
 |len a b=>exact RX.rX (rx:=.len a b) (ev:=s.ev) (rd:=s.rd) (K:=λr=>K (s.put _ r)) h
 |un a b=>exact RX.rX (rx:=.un a b) (ev:=s.ev) (rd:=s.rd) (K:=λr=>K (s.put _ r)) h
 |conv a b=>exact RX.rX (rx:=.conv a b) (ev:=s.ev) (rd:=s.rd) (K:=λr=>K (s.put _ r)) h
 |bin a b c=>exact RX.rX (rx:=.bin a b c) (ev:=s.ev) (rd:=s.rd) (K:=λr=>K (s.put _ r)) h
 |aZ a b=>exact RX.rX (rx:=.aZ a b) (ev:=s.ev) (rd:=s.rd) (K:=λr=>K (s.put _ r)) h
 |more g a=>exact Ep (K:=λr=>K (s.put _ r)) h
 |mk a b c d=>exact RX.rX (rx:=.mk a b c d) (ev:=s.ev) (rd:=s.rd) (K:=λr=>K (s.put _ r)) h
 |_=>exact h
def ROp.gp(P:Program)(fb dr:Bool)(r:ROp)(s:St)(K:St->Prop):Prop:=
 match r.guard with
 |none=>r.rx.gp P fb dr s r.dst K
 |some (g,want)=>match s.ev (.t g) with
  |.bool b=>match want with
   |true=>aj b (r.rx.gp P fb dr s r.dst K) (K (s.pt r.dst (.tup [])))
   |false=>aj b (K (s.pt r.dst (.tup []))) (r.rx.gp P fb dr s r.dst K)
  |.tup []=>K (s.pt r.dst (.tup []))
  |_=>False
theorem ROp.mj{P:Program}{fb dr:Bool}{r:ROp}{s:St}{K:St->Prop}(h:r.gp P fb dr s K):r.run P dr s K:=by
 unfold ROp.gp at h;simp only[St.om] at h;unfold ROp.run;split at h
 .rename_i hg;rw[hg];exact RX.mj h
 .rename_i g want hg;rw[hg];simp only;split at h
  .rename_i b hb;rw[hb];simp only[gv]
   cases want with
   |true=>exact⟨λe=>RX.mj (h.t e),λe=>h.f (by cases b;rfl;exact absurd rfl e)⟩
   |false=>exact⟨λe=>RX.mj (h.f e),λe=>h.t (by cases b;exact absurd rfl e;rfl)⟩
  .rename_i hb;rw[hb];simp only[gv];exact⟨λe=>(by cases want<;>cases e),λ_=>h⟩
  .exact h.elim
def Ks(P:Program)(fb:Bool)(dr:Bool):List ROp->St->(St->Prop)->Prop
 |[],s,K=>K s
 |r::rs,s,K=>r.gp P fb dr s λs'=>s'.fo fb λs'=>Ks P fb dr rs s' K
theorem GX{P:Program}{fb dr:Bool}:∀{rs:List ROp} {s:St} {K:St->Prop},Ks P fb dr rs s K->x4 P dr rs s K
 |[],_,_,h=>h
 |r::rs,s,K,h=>by
  refine ROp.mono (λs' hs'=>?_) (ROp.mj h);rw[St.cX] at hs';exact GX hs'
def GG(P:Program)(fb:Bool)(p:Nat):Nat->List ROp->St->(St->Prop)->Prop
 |_,[],s,K=>K s
 |i,r::rs,s,K=>r.gp P fb (!(Nat.beq i p)) s λs'=>s'.fo fb λs'=>GG P fb p (i+1) rs s' K
theorem Ea{P:Program}{fb:Bool}{p:Nat}:∀{rs:List ROp} {i:Nat} {s:St} {K:St->Prop},GG P fb p i rs s K->sY P p i rs s K
 |[],_,_,_,h=>h
 |r::rs,i,s,K,h=>by
  refine ROp.mono (λs' hs'=>?_) (ROp.mj h);rw[St.cX] at hs';exact Ea hs'
def rI(P:Program)(fb:Bool)(V:List Nat):List (Nat×ROp)->St->(St->Prop)->Prop
 |[],s,K=>K s
 |(c,r)::l,s,K=>match c with
  |0=>r.gp P fb true s λs'=>s'.fo fb λs'=>rI P fb V l s' K
  |1=>r.gp P fb false s λs'=>s'.fo fb λs'=>rI P fb V l s' K
  |_+2=>r.gp P fb false s λs'=>s'.fo fb λs'=>Ad (Dv s V) s.bs s'.bs (rI P fb V l s' K)
theorem mb{P:Program}{fb:Bool}{V:List Nat}:∀{q:List (Nat×ROp)} {s:St} {K:St->Prop},rI P fb V q s K->iQ P V q s K
 |[],_,_,h=>h
 |(0,r)::l,s,K,h=>by
  refine ROp.mono (λs' hs'=>?_) (ROp.mj h);rw[St.cX] at hs'
  exact mb hs'
 |(1,r)::l,s,K,h=>by
  refine ROp.mono (λs' hs'=>?_) (ROp.mj h);rw[St.cX] at hs'
  exact mb hs'
 |(_+2,r)::l,s,K,h=>by
  refine ROp.mono (λs' hs'=>?_) (ROp.mj h);rw[St.cX] at hs';exact⟨hs'.h,mb hs'.k⟩
structure CB(p q:Prop):Prop where
 p:p
 q:q
structure aJ(P:Program)(c:RC)(s:St)(Q:AX->St->Prop):Prop where
 out:(RC.loop c).wp P s Q
structure ja(P:Program)(g:Opd)(ps:List Nat)(a b:RC)(s:St)(Q:AX->St->Prop):Prop where
 out:(RC.range g ps a b).wp P s Q
def RC.gp(P:Program)(fb:Bool):RC->St->(AX->St->Prop)->Prop
 |.skip,s,Q=>Q .normal s
 |.reg dr keep ops,s,Q=>Ks P fb dr ops s λs'=>(s'.kp keep).fo fb λs'=>Q .normal s'
 |.solo p keep ops,s,Q=>GG P fb p 0 ops s λs'=>(s'.kp keep).fo fb λs'=>Q .normal s'
 |.mult keep ops,s,Q=>rI P fb (iT ops) ops s λs'=>(s'.kp keep).fo fb λs'=>Q .normal s'
 |.both keep qa q1 q2,s,Q=>rI P fb (bC qa q1 q2) qa s λsA=>CB (rI P fb (bC qa q1 q2) q1 sA λs'=>(s'.kp keep).fo fb λs'=>Q .normal s') (rI P fb (bC qa q1 q2) q2 sA λs'=>(s'.kp keep).fo fb λs'=>Q .normal s')
 |.seq a b,s,Q=>a.gp P fb s (og (λs'=>b.gp P fb s' Q) Q)
 |.cond c a b,s,Q=>match s.ev c with
  |.bool t=>aj t (a.gp P fb s Q) (b.gp P fb s Q)
  |_=>False
 |.block id c,s,Q=>c.gp P fb s (uQ id Q)
 |.loop c,s,Q=>aJ P c s Q
 |.range g ps a b,s,Q=>ja P g ps a b s Q
 |.exit id,s,Q=>Q (.exit id) s
 |.ret,s,Q=>Q .ret s
theorem RC.lx{P:Program}{fb:Bool}:∀{c:RC} {s:St} {Q:AX->St->Prop},c.gp P fb s Q->c.wp P s Q
 |.skip,_,_,h=>h
 |.reg dr keep ops,s,Q,h=>ig (λs' hs'=>by rwa [St.cX] at hs') (GX h)
 |.solo p keep ops,s,Q,h=>lF (λs' hs'=>by rwa [St.cX] at hs') (Ea h)
 |.mult keep ops,s,Q,h=>a8 (λs' hs'=>by rwa [St.cX] at hs') (mb h)
 |.both keep qa q1 q2,s,Q,h=>a8 (λsA hs'=>⟨a8 (λs' hs'=>by rwa [St.cX] at hs') (mb hs'.p),a8 (λs' hs'=>by rwa [St.cX] at hs') (mb hs'.q)⟩) (mb h)
 |.seq a b,s,Q,h=>RC.wp_mono (c:=a) (λx s' hx=>oI (λs2 h2=>RC.lx (c:=b) h2) x s' hx) (RC.lx (c:=a) h)
 |.cond c a b,s,Q,h=>by
  simp only[RC.gp,RC.wp] at h|-;split at h
  .rename_i t ht;rw[ht];exact⟨λe=>RC.lx (c:=a) (h.t e),λe=>RC.lx (c:=b) (h.f e)⟩
  .exact h.elim
 |.block id c,s,Q,h=>RC.lx (c:=c) h
 |.loop c,s,Q,h=>h.out
 |.range g ps a b,s,Q,h=>h.out
 |.exit id,_,_,h=>h
 |.ret,_,_,h=>h
def tC:AV->AV
 |.tup cs=>.tup (cs.map AV.norm)
 |x=>x.norm
theorem RV.tC{M:Hp}{σ:Nat->Nat}{n:Nat}{x:AV}{v:Value}(h:RV M σ n x v):RV M σ n (tC x) v:=by
 cases x with
 |tup cs=>
  obtain⟨vs,rfl,hl,hv⟩:=h.sw;refine .tup _ vs (by simpa using hl) λj hj v hjv=>?_
  simp only[zF] at hj;rw[ZE]
  exact(hv j hj v hjv).norm
 |_=>exact h.norm
theorem DG(x:AV):AM.tC x.aG=AM.tC x:=by
 cases x with
 |sl o l=>cases o<;>rfl
 |_=>rfl
theorem Sem.nrm{P:Program}{f:FuncId}{ae:List AV}{bs:List Box}{Q:AV->List Box->Prop}(h:Sem P f ae bs λr b=>Q r b\/Q (tC r) b):Sem P f ae bs Q:=by
 intro E G a0 w args lo h1 h2 h3;refine(h E G a0 w args lo h1 h2 h3).mono ?_;rintro e w' ⟨v,r,bs',G',rfl,q,hs⟩;rcases q with q|q
 .exact ⟨v,r,bs',G',rfl,q,hs⟩
 .have hat:(⟨[(0,r)],bs',bs.length⟩:St).at (.sl 0)=some r:=rfl;have hv:=hs.val _ _ hat
  have:=hs.upd (q:=.sl 0) hat (x:=tC r) (by
   have:=hv.tC
   rwa [DG] at this)
  exact⟨v,tC r,bs',_,rfl,q,this⟩
structure ai(s:St)(rs:List e7)(Q:AV->List Box->Prop):Prop where
 out:∃s',au s s'/\rT s' rs λr b=>Q r b\/Q (tC r) b
theorem vQ{s:St}{rs:List e7}{Q Q':AV->List Box->Prop}(hq:∀r b,Q r b->Q' r b)(h:rT s rs Q):rT s rs Q':=by
 have hV:∀{r:e7} {K K':AV->Prop},(∀x,K x->K' x)->CY s r K->CY s r K':=λ{r} {K K'} hk h=>by
  cases r with
  |slot t=>exact hk _ h
  |cell t agg n=>
   simp only[CY,bL] at h|-;split at h
   .split at h
    .obtain ⟨h1,h2⟩:=af.1 h;exact af.2 ⟨h1,hk _ h2⟩
    .split at h
     .exact hk _ h
     .exact h
   .exact h
 have hVs:∀{rs:List e7} {K K':List AV->Prop},(∀x,K x->K' x)->AF s rs K->AF s rs K':=λ{rs}=>by
  induction rs with
  |nil=>exact λhk h=>hk _ h
  |cons r rs ih=>exact λhk h=>hV (λx hx=>ih (λxs hxs=>hk _ hxs) hx) h
 unfold rT at h|-;split at h
 .exact hq _ _ h
 .exact hV (λx hx=>hq _ _ hx) h
 .exact hVs (λx hx=>hq _ _ hx) h
theorem ai.nrm{s:St}{rs:List e7}{Q:AV->List Box->Prop}(h:rT s rs λr b=>fv (tC r) λx=>Q x b):ai s rs Q:=⟨s,au.refl s,vQ (λr b q=>.inr (by rwa [BE] at q)) h⟩
theorem ai.of{s:St}{rs:List e7}{Q:AV->List Box->Prop}(h:JF s rs Q):ai s rs Q:=by
 obtain⟨s',h1,h2⟩:=h.out;exact⟨s',h1,vQ (λr b q=>.inl q) h2⟩
theorem ai.cut{s:St}{rs:List e7}{Q:AV->List Box->Prop}(n:Nat)(hlo:s.lo<=n)(hn:n<=s.bs.length)(h1:nE n s.env=true)(h2:ak n (s.bs.take n)=true)(h:ai ⟨s.env,s.bs.take n,s.lo⟩ rs Q):ai s rs Q:=by
 obtain⟨s',h3,h4⟩:=h.out;exact⟨s',(au.cut s n hlo hn h1 h2).trans h3,h4⟩
def Li(rs:List e7)(Q:AV->List Box->Prop):AX->St->Prop
 |.normal,s=>ai s rs Q
 |.ret,s=>ai s rs Q
 |_,_=>False
theorem Kd{P:Program}{fb:Bool}{c:RC}{ae:List AV}{bs:List Box}{rs:List e7}{Q:AV->List Box->Prop}(h:(⟨params 0 ae,bs,bs.length⟩:St).fo fb λs=>c.gp P fb s (Li rs Q)):c.wp P ⟨params 0 ae,bs,bs.length⟩ λx s=>∃s',au s s'/\Lh rs (λr b=>Q r b\/Q (tC r) b) x s':=by
 rw[St.cX] at h;refine RC.wp_mono (λx s hx=>?_) (RC.lx h)
 cases x with
 |normal=>exact hx.out
 |ret=>exact hx.out
 |exit id=>exact hx.elim
inductive WkV:AV->AV->Prop
 |eq {x y:AV} (h:x=y):WkV x y
 |aV {z:Nat} {l m:List AV} (h:Szs z l) (e:l=m):WkV (.sl .full l) (.sl (.own z) m)
 |norm (x:AV):WkV x x.norm
theorem au.ext{s t:St}(h:∀k,aq t.env k=aq s.env k)(hb:t.bs=s.bs)(hl:t.lo=s.lo):au s t:=λE G a w hs=>by
 obtain⟨e,bs,lo⟩:=s;obtain⟨e',bs',lo'⟩:=t;simp only at h hb hl;subst hb hl
 have hat:∀p,(⟨e',bs',lo'⟩:St).at p=(⟨e,bs',lo'⟩:St).at p:=λp=>by
  cases p with
  |sl t=>exact h t
  |bx b j=>rfl
 exact⟨G,hs.fr,hs.ok,hs.nt,λp x hp=>hs.val p x (by rw[<-hat];exact hp),λb j x hp=>hs.one b j x (by rw[<-hat];exact hp),hs.box,hs.bmem,hs.inj,λp z l hp=>hs.own p z l (by rw[<-hat];exact hp),hs.clinj,hs.clbox,hs.cllt,hs.lo,hs.len,hs.sig,hs.sp⟩
theorem au.slot{s:St}{k:Nat}{x y:AV}(h0:aq s.env k=some x)(h:WkV x y):au s (s.put (some k) y):=by
 cases h with
 |eq h=>
  subst h;refine au.ext (λj=>?_) rfl rfl;simp only[St.put,fC];split
  .rename_i e;rw[e,h0]
  .rfl
 |aV hz e=>subst e;exact au.aV s k _ _ h0 hz.out
 |norm=>exact au.norm s k x h0
theorem iZ:∀(pre r:List (Nat×AV)) (k:Nat),aq (pre++r) k=match aq pre k with|some x=>some x|none=>aq r k
 |[],r,k=>rfl
 |(t,x)::pre,r,k=>by
  simp only[zf,aq]
  cases Nat.beq t k with
  |true=>rfl
  |false=>exact iZ pre r k
theorem au.at_{pre r:List (Nat×AV)}{bs:List Box}{lo k:Nat}{x y:AV}(h:WkV x y):au ⟨pre++(k,x)::r,bs,lo⟩ ⟨pre++(k,y)::r,bs,lo⟩:=by
 cases hp:aq pre k with
 |some z=>
  refine au.ext (λj=>?_) rfl rfl;simp only[iZ,aq]
  by_cases e:k=j
  .subst e;rw[hp]
  .rw [cu e]
 |none=>
  refine(au.slot (s:=⟨pre++(k,x)::r,bs,lo⟩) (k:=k) (x:=x) (by simp only[iZ,hp,aq,Nat.beq_refl]) h).trans (au.ext (λj=>?_) rfl rfl)
  simp only[St.put,fC,iZ,aq]
  by_cases e:k=j
  .subst e;rw[hp];simp
  .rw [if_neg (λh=>e h.symm),cu e]
theorem au.JU{pre r:List (Nat×AV)}{bs:List Box}{lo k:Nat}{x:AV}(hp:∀t∈pre.map (·.1),t≠k)(hr:∀t∈r.map (·.1),t≠k):au ⟨pre++(k,x)::r,bs,lo⟩ ⟨pre++r,bs,lo⟩:=by
 have hno:∀l:List (Nat×AV),(∀t∈l.map (·.1),t≠k)->aq l k=none:=λl=>by
  induction l with
  |nil=>exact λ_=>rfl
  |cons q l ih=>
   obtain⟨t,y⟩:=q;intro h;simp only[aq];rw[cu (h t (by simp))]
   exact ih λt ht=>h t (by simp only[zQ,zI];exact .inr ht)
 refine(au.keep _ ((pre++r).map (·.1))).trans (au.ext (λj=>?_) rfl rfl)
 have hk:∀(f:Nat->Bool) (e:List (Nat×AV)),aq (eR f e) j=if f j then aq e j else none:=λf e=>by
  induction e with
  |nil=>simp[eR,aq]
  |cons q e ih=>
   obtain⟨t,y⟩:=q;simp only[eR]
   cases hf:f t with
   |true=>
    simp only[aq]
    cases hb:Nat.beq t j with
    |true=>have:=zP hb;subst this;simp[hf]
    |false=>simp only;exact ih
   |false=>
    simp only[aq]
    cases hb:Nat.beq t j with
    |true=>have:=zP hb;subst this;rw[ih];simp[hf]
    |false=>simp only;exact ih
 simp only[St.keep,hk]
 have hmem:∀(l:List Nat),mem j l=true↔j∈l:=λl=>by
  induction l with
  |nil=>simp[mem]
  |cons y l ih=>
   simp only[mem]
   cases hb:Nat.beq y j with
   |true=>have:=zP hb;subst this;simp
   |false=>
    simp only[ih,zI];exact⟨.inr,λh=>h.elim (λe=>by subst e;simp at hb) id⟩
 have hin:∀(l:List (Nat×AV)),j∉l.map (·.1)->aq l j=none:=λl=>by
  induction l with
  |nil=>exact λ_=>rfl
  |cons q l ih=>
   obtain⟨t,y⟩:=q;intro h;simp only[zQ,zI,not_or] at h;simp only[aq];rw[cu (λe=>h.1 e.symm)];exact ih h.2
 by_cases hj:j∈(pre++r).map (·.1)
 .rw [if_pos ((hmem _).2 hj)];simp only[iZ,aq]
  by_cases e:k=j
  .subst e;rw[zw,zZ] at hj;rcases hj with hj|hj
   .exact absurd rfl (hp _ hj)
   .exact absurd rfl (hr _ hj)
  .rw [cu e]
 .rw [if_neg (λh=>hj ((hmem _).1 h)),hin _ hj]
structure WkN(x y:AV)(K:Prop):Prop where
 w:WkV x y
 k:K
theorem WkN.eq{x y:AV}{K:Prop}(h:x=y)(k:K):WkN x y K:=⟨.eq h,k⟩
theorem WkN.int{i:IntKind}{x y:Int}{K:Prop}(h:x=y)(k:K):WkN (.int i x) (.int i y) K:=⟨.eq (by rw[h]),k⟩
theorem WkN.bool{x y:Bool}{K:Prop}(h:x=y)(k:K):WkN (.bool x) (.bool y) K:=⟨.eq (by rw[h]),k⟩
theorem WkN.sl{o:Cap}{l m:List AV}{K:Prop}(h:l=m)(k:K):WkN (.sl o l) (.sl o m) K:=⟨.eq (by rw[h]),k⟩
theorem WkN.norm{x y:AV}{K:Prop}(h:x.norm=y)(k:K):WkN x y K:=⟨h▸.norm x,k⟩
theorem WkN.aV{z:Nat}{l m:List AV}{K:Prop}(h:Szs z l)(e:l=m)(k:K):WkN (.sl .full l) (.sl (.own z) m) K:=⟨.aV h e,k⟩
def tD(k:Nat):List (Nat×AV)->Bool
 |[]=>true
 |(t,_)::r=>match Nat.beq t k with
  |true=>false
  |false=>tD k r
def wkE:Nat->List (Nat×AV)->List (Nat×AV)->List (Nat×AV)->Prop
 |0,_,_,_=>False
 |_+1,_,[],[]=>True
 |n+1,pre,(k,x)::r,(k',y)::r'=>match Nat.beq k k' with
  |true=>WkN x y (wkE n (pre++[(k',y)]) r r')
  |false=>req (tD k pre&&tD k r) (wkE n pre r ((k',y)::r'))
 |n+1,pre,(k,_)::r,[]=>req (tD k pre&&tD k r) (wkE n pre r [])
 |_+1,_,[],_::_=>False
theorem lh{k:Nat}:∀{l:List (Nat×AV)},tD k l=true->∀t∈l.map (·.1),t≠k
 |[],_,_,h=>by cases h
 |(u,_)::r,h,t,ht=>by
  simp only[tD] at h;split at h
  .cases h
  .rename_i hb;simp only[zQ,zI] at ht;rcases ht with rfl|ht
   .intro e;subst e;simp at hb
   .exact lh h t ht
theorem mR{bs:List Box}{lo:Nat}:∀{n:Nat} {pre e e':List (Nat×AV)},wkE n pre e e'->au ⟨pre++e,bs,lo⟩ ⟨pre++e',bs,lo⟩
 |0,_,_,_,h=>h.elim
 |_+1,_,[],[],_=>au.refl _
 |n+1,pre,(k,x)::r,(k',y)::r',h=>by
  simp only[wkE] at h;split at h
  .rename_i hb;have:=zP hb;subst this;have:=mR (bs:=bs) (lo:=lo) h.k;simp only[zh,List.singleton_append] at this;exact(au.at_ h.w).trans this
  .obtain ⟨h1,h2⟩:=af.1 h;simp only[zD] at h1
   exact(au.JU (lh h1.1) (lh h1.2)).trans (mR h2)
 |n+1,pre,(k,x)::r,[],h=>by
  simp only[wkE] at h;obtain⟨h1,h2⟩:=af.1 h;simp only[zD] at h1
  exact(au.JU (lh h1.1) (lh h1.2)).trans (mR h2)
 |_+1,_,[],_::_,h=>h.elim
structure BxN(p K:Prop):Prop where
 p:p
 k:K
def eqC:List AV->List AV->Prop->Prop
 |[],[],K=>K
 |x::xs,y::ys,K=>BxN (x=y) (eqC xs ys K)
 |_,_,_=>False
theorem EE:∀{xs ys:List AV} {K:Prop},eqC xs ys K->xs=ys/\K
 |[],[],_,h=>⟨rfl,h⟩
 |x::xs,y::ys,K,h=>by
  obtain⟨h1,h2⟩:=EE h.k
  exact⟨by rw[h.p,h1],h2⟩
 |[],_::_,_,h=>h.elim
 |_::_,[],_,h=>h.elim
def eqB:List Box->List Box->Prop->Prop
 |[],[],K=>K
 |.cells cs::r,.cells ds::r',K=>eqC cs ds (eqB r r' K)
 |.dead::r,.dead::r',K=>eqB r r' K
 |.loop x::r,.loop y::r',K=>BxN (x=y) (eqB r r' K)
 |.row x::r,.row y::r',K=>BxN (x=y) (eqB r r' K)
 |.mp x::r,.mp y::r',K=>BxN (x=y) (eqB r r' K)
 |.mq x c::r,.mq y d::r',K=>BxN (x=y) (BxN (c=d) (eqB r r' K))
 |.tab x::r,.tab y::r',K=>BxN (x=y) (eqB r r' K)
 |_,_,_=>False
theorem hP:∀{xs ys:List Box} {K:Prop},eqB xs ys K->xs=ys/\K
 |[],[],_,h=>⟨rfl,h⟩
 |.cells cs::r,.cells ds::r',K,h=>by
  obtain⟨h1,h2⟩:=EE h;obtain⟨h3,h4⟩:=hP h2
  exact⟨by rw[h1,h3],h4⟩
 |.dead::r,.dead::r',K,h=>by
  obtain⟨h3,h4⟩:=hP (xs:=r) (ys:=r') h
  exact⟨by rw[h3],h4⟩
 |.loop x::r,.loop y::r',K,h=>by
  obtain⟨h3,h4⟩:=hP h.k
  exact⟨by rw[h.p,h3],h4⟩
 |.row x::r,.row y::r',K,h=>by
  obtain⟨h3,h4⟩:=hP h.k
  exact⟨by rw[h.p,h3],h4⟩
 |.mp x::r,.mp y::r',K,h=>by
  obtain⟨h3,h4⟩:=hP h.k
  exact⟨by rw[h.p,h3],h4⟩
 |.mq x c::r,.mq y d::r',K,h=>by
  obtain⟨h3,h4⟩:=hP h.k.k
  exact⟨by rw[h.p,h.k.p,h3],h4⟩
 |.tab x::r,.tab y::r',K,h=>by
  obtain⟨h3,h4⟩:=hP h.k
  exact⟨by rw[h.p,h3],h4⟩
 |.cells _::_,.tab _::_,_,h=>h.elim
 |.tab _::_,.cells _::_,_,h=>h.elim
 |.dead::_,.tab _::_,_,h=>h.elim
 |.tab _::_,.dead::_,_,h=>h.elim
 |.loop _::_,.tab _::_,_,h=>h.elim
 |.tab _::_,.loop _::_,_,h=>h.elim
 |.row _::_,.tab _::_,_,h=>h.elim
 |.tab _::_,.row _::_,_,h=>h.elim
 |.mp _::_,.tab _::_,_,h=>h.elim
 |.tab _::_,.mp _::_,_,h=>h.elim
 |.mq _ _::_,.tab _::_,_,h=>h.elim
 |.tab _::_,.mq _ _::_,_,h=>h.elim
 |.tab _::_,[],_,h=>h.elim
 |[],_::_,_,h=>h.elim
 |.cells _::_,[],_,h=>h.elim
 |.cells _::_,.mq _ _::_,_,h=>h.elim
 |.mq _ _::_,.cells _::_,_,h=>h.elim
 |.cells _::_,.dead::_,_,h=>h.elim
 |.cells _::_,.loop _::_,_,h=>h.elim
 |.cells _::_,.row _::_,_,h=>h.elim
 |.cells _::_,.mp _::_,_,h=>h.elim
 |.dead::_,[],_,h=>h.elim
 |.dead::_,.mq _ _::_,_,h=>h.elim
 |.mq _ _::_,.dead::_,_,h=>h.elim
 |.dead::_,.cells _::_,_,h=>h.elim
 |.dead::_,.loop _::_,_,h=>h.elim
 |.dead::_,.row _::_,_,h=>h.elim
 |.dead::_,.mp _::_,_,h=>h.elim
 |.loop _::_,[],_,h=>h.elim
 |.loop _::_,.mq _ _::_,_,h=>h.elim
 |.mq _ _::_,.loop _::_,_,h=>h.elim
 |.loop _::_,.cells _::_,_,h=>h.elim
 |.loop _::_,.dead::_,_,h=>h.elim
 |.loop _::_,.row _::_,_,h=>h.elim
 |.loop _::_,.mp _::_,_,h=>h.elim
 |.row _::_,[],_,h=>h.elim
 |.row _::_,.mq _ _::_,_,h=>h.elim
 |.mq _ _::_,.row _::_,_,h=>h.elim
 |.row _::_,.cells _::_,_,h=>h.elim
 |.row _::_,.dead::_,_,h=>h.elim
 |.row _::_,.loop _::_,_,h=>h.elim
 |.row _::_,.mp _::_,_,h=>h.elim
 |.mp _::_,[],_,h=>h.elim
 |.mq _ _::_,[],_,h=>h.elim
 |.mp _::_,.mq _ _::_,_,h=>h.elim
 |.mq _ _::_,.mp _::_,_,h=>h.elim
 |.mp _::_,.cells _::_,_,h=>h.elim
 |.mp _::_,.dead::_,_,h=>h.elim
 |.mp _::_,.loop _::_,_,h=>h.elim
 |.mp _::_,.row _::_,_,h=>h.elim
theorem az.at_{s t:St}(h:DD true t.env λe=>fBs t.bs λb=>wkE 100 [] s.env e/\eqB s.bs b True)(hl:s.lo=t.lo):az s t:=by
 rw[p8,iY] at h;obtain⟨e,bs,lo⟩:=s;obtain⟨e',bs',lo'⟩:=t;simp only at h hl;subst hl;obtain⟨h2,_⟩:=hP h.2;subst h2;exact⟨mR h.1⟩
theorem az.atC(n:Nat){s t:St}(h:DD true t.env λe=>fBs t.bs λb=>wkE 100 [] (s.keep (e.map (·.1))).env e/\eqB (s.bs.take n) b True)(hl:s.lo=t.lo)(hlo:Nat.ble s.lo n=true)(hn:Nat.ble n s.bs.length=true)(h1:nE n (s.keep (t.env.map (·.1))).env=true)(h2:ak n (s.bs.take n)=true):az s t:=by
 rw[p8,iY] at h;refine⟨(au.keep s (t.env.map (·.1))).trans ((au.cut (s.keep (t.env.map (·.1))) n (zt hlo) (zt hn) h1 h2).trans ?_)⟩;refine(az.at_ (s:=⟨(s.keep (t.env.map (·.1))).env,s.bs.take n,s.lo⟩) ?_ hl).out;rw[p8,iY];exact h
theorem az.atS{s t:St}(h:wkE 100 [] s.env t.env)(hb:s.bs=t.bs)(hl:s.lo=t.lo):az s t:=by
 obtain⟨e,bs,lo⟩:=s;obtain⟨e',bs',lo'⟩:=t;simp only at h hb hl;subst hb hl;exact⟨mR h⟩
def St.oK(s:St):List (Nat×AV)->St
 |[]=>s
 |(t,x)::r=>(s.put (some t) x).oK r
theorem az.FN{s t:St}{own:List Box}{x:Box}(hb:s.bs=own++[x])(hlo:s.lo<=own.length)(h1:nE own.length s.env=true)(h2:ak own.length own=true)(h:az ⟨s.env,own,s.lo⟩ t):az s t:=
 ⟨(au.cut s own.length hlo (by rw[hb];simp) h1 (by rw[hb];simpa using h2)).trans (by
  have:s.bs.take own.length=own:=by rw[hb];simp
  rw[this];exact h.out)⟩
theorem ai.FN{s:St}{rs:List e7}{Q:AV->List Box->Prop}{own:List Box}{x:Box}(hb:s.bs=own++[x])(hlo:s.lo<=own.length)(h1:nE own.length s.env=true)(h2:ak own.length own=true)(h:ai ⟨s.env,own,s.lo⟩ rs Q):ai s rs Q:=by
 refine ai.cut own.length hlo (by rw[hb];simp) h1 (by rw[hb];simpa using h2) ?_
 have:s.bs.take own.length=own:=by rw[hb];simp
 rw[this];exact h
theorem ja.byW{P:Program}{g:Opd}{ps:List Nat}{a b:RC}{s:St}{Q:AX->St->Prop}(s0:St){gf:FuncId}{lb:List AV}{xs:List (List AV)}(hw:az s s0)(hg:s0.ev g=.fn (.func gf) [] lb)(hbd:dS P gf=true)(hi:CA P gf (lb.map AV.norm) xs)(hlen:∀y∈xs,y.length=ps.length)
  (I:List (List AV)->List Box->Prop) (Ix:AX->List Box->Prop) (hI2:∀pre own,I pre own->ak own.length own=true) (hIx2:∀e own,Ix e own->ak own.length own=true) (hy:∀y∈xs,y.all (λv=>v.lt 0)=true) (h0:I [] s0.bs) (hI:∀pre own,I pre own->own.length=s0.bs.length) (hIx:∀e own,Ix e own->own.length=s0.bs.length)
  (round:∀x pre y rest own,pre++y::rest=xs->I pre own->a.wp P ⟨jU (eU s0.env) ps y,own++[.loop x],own.length+1⟩ λe s1=>match e with|.normal=>ag s1.bs s0.bs.length=some x/\b.wp P ⟨s1.env,s1.bs.set s0.bs.length .dead,s1.lo⟩ λe s3=>K9 s3 e (λe own=>match e with|.normal=>I (pre++[y]) own|e=>Ix e own)|_=>False)
  (done:∀own,I xs own->(⟨s0.env,own++[.dead],s0.lo⟩:St).fo true λs'=>Q .normal s') (stop:∀e own,Ix e own->(⟨s0.env,own++[.dead],s0.lo⟩:St).fo true λs'=>Q e s'):
  ja P g ps a b s Q:=by
 refine⟨s0,hw.out,?_⟩;rw[hg];refine⟨hbd,λx hx=>?_⟩;have hbl:∀own (y:LB),own.length=s0.bs.length->ag (own++[.loop y]) s0.bs.length=some y:=λown y h=>by rw[dC,if_pos h.symm]
 have hS:=hi.use s0.bs.length (s0.bs++[Box.loop x]) (λpre bs=>∃own,I pre own/\bs=own++[Box.loop x])
  (λbs=>∃e own,Ix e own/\((e=.ret/\bs=own++[Box.loop (x.done .ret)])\/∃id,e=.exit id/\bs=own++[Box.loop (x.done (.exit id))])) (by simp) ?_ ?_ (λy hyx v hv=>He (zJ _) (zT.1 (hy y hyx) v hv)) ?_ ⟨_,h0,rfl⟩
 refine⟨_,hS,?_⟩
 rotate_left 3
 .rintro pre y rest bs hxs ⟨own,hown,rfl⟩;have hl:=hI pre own hown;refine hx y _ _ (hbl own x hl) (hlen y (by rw[<-hxs];simp)) ?_
  have hr:=round x pre y rest own hxs hown;unfold GR;simp only[zC,zY,ZR,ZJ];refine RC.wp_mono (λe s1 h1=>?_) hr
  cases e with
  |ret=>exact h1
  |exit id=>exact h1
  |normal=>
   obtain⟨h2,h3⟩:=h1;refine⟨h2,?_⟩;refine RC.wp_mono (λe s3 h4=>?_) h3;obtain⟨s4,own',hw4,hb4,hJ⟩:=h4.out;refine⟨s4,hw4,?_⟩
   cases e with
   |normal=>
    simp only[th,hb4]
    exact .inl ⟨trivial,own',hJ,kz (hI _ _ hJ) _ _⟩
   |ret=>
    simp only[th,hb4]
    exact .inr ⟨trivial,.ret,own',hJ,.inl ⟨rfl,kz (hIx _ _ hJ) _ _⟩⟩
   |exit id=>
    simp only[th,hb4];exact .inr ⟨trivial,.exit id,own',hJ,.inr ⟨id,rfl,kz (hIx _ _ hJ) _ _⟩⟩
 .rintro r bs' (⟨own,hown,rfl⟩|⟨e,own,hown,hb⟩)
  .have hl:=hI _ own hown;refine .inl ⟨hbl own x hl,?_⟩;rw[kz hl];have:=done own hown
   rwa [St.cX] at this
  .have hl:=hIx _ own hown;have hs:=stop e own hown;rw[St.cX] at hs;rcases hb with ⟨rfl,rfl⟩|⟨id,rfl,rfl⟩
   .exact .inr (.inl ⟨hbl own _ hl,by rw[kz hl];exact hs⟩)
   .exact .inr (.inr ⟨id,hbl own _ hl,by rw[kz hl];exact hs⟩)
 .rintro pre bs' ⟨own,hown,rfl⟩;have hl:=hI pre own hown;exact⟨by simp[hl],by rw[zC,zV,<-hl];exact mo (hI2 pre own hown) x⟩
 .rintro bs' ⟨e,own,hown,hb⟩;have hl:=hIx e own hown;rcases hb with ⟨_,rfl⟩|⟨id,_,rfl⟩
  .exact ⟨by simp[hl],by rw[zC,zV,<-hl];exact mo (hIx2 e own hown) _⟩
  .exact ⟨by simp[hl],by rw[zC,zV,<-hl];exact mo (hIx2 e own hown) _⟩
structure DW(bs:List Box)(n:Nat)(x:LB)(K:Prop):Prop where
 h:ag bs n=some x
 k:K
def asgP(x:LB)(n:Nat)(K:St->Prop):AX->St->Prop
 |.normal,s=>DW s.bs n x ((⟨s.env,s.bs.set n .dead,s.lo⟩:St).fo true K)
 |_,_=>False
structure u6(s:St)(own:List Box):Prop where
 out:∃lo,au s ⟨[],own++[.dead],lo⟩
theorem u6.by{s:St}{own:List Box}(h:eqB (s.bs.take (own.length+1)) (own++[.dead]) True)(hlo:Nat.ble s.lo (own.length+1)=true)(hn:Nat.ble (own.length+1) s.bs.length=true)(h2:ak (own.length+1) (own++[.dead])=true):u6 s own:=by
 obtain⟨h3,_⟩:=hP h;refine⟨s.lo,?_⟩
 have hk:(s.keep [])=⟨[],s.bs,s.lo⟩:=by
  have:∀e:List (Nat×AV),eR (λk=>mem k []) e=[]:=λe=>by
   induction e with
   |nil=>rfl
   |cons p e ih=>obtain⟨k,v⟩:=p;simpa[eR,mem] using ih
  simp only[St.keep,this]
 refine(au.keep s []).trans ?_;rw[hk];have:=au.cut ⟨[],s.bs,s.lo⟩ (own.length+1) (zt hlo) (zt hn) rfl (by rw[h3];exact h2)
 rw[h3] at this;exact this
def Ke(own:List Box)(Ix:AX->St->Prop):AX->St->Prop
 |.normal,s=>u6 s own
 |e,s=>Ix e s
theorem ja.each{α:Type}{P:Program}{g:Opd}{ps:List Nat}{a b:RC}{s:St}{Q:AX->St->Prop}(enc:α->List AV)(l:List α)(s0:St)(bx:List α->List Box){gf:FuncId}{lb:List AV}(hi:CA P gf (lb.map AV.norm) (l.map enc))(hbd:dS P gf=true)(hw:az s s0)(hg:s0.ev g=.fn (.func gf) [] lb)
  (hlen:∀y,(enc y).length=ps.length) (hy:∀y,(enc y).all (λv=>v.lt 0)=true) (h0:s0.bs=bx []) (hb:∀pre,(bx pre).length=s0.bs.length/\ak s0.bs.length (bx pre)=true)
  (round:∀x pre y rest,pre++y::rest=l->(⟨jU (eU s0.env) ps (enc y),bx pre++[.loop x],s0.bs.length+1⟩:St).fo true λs1=>a.gp P true s1 (asgP x s0.bs.length λs2=>b.gp P true s2 (Ke (bx (pre++[y])) λ_ _=>False)))
  (done:(⟨s0.env,bx l++[.dead],s0.lo⟩:St).fo true λs'=>Q .normal s'):ja P g ps a b s Q:=by
 refine ja.byW s0 hw hg hbd hi (λy hyl=>?_) (λpre own=>∃p q,p++q=l/\pre=p.map enc/\own=bx p) (λ_ _=>False) (λpre own h=>?_) (λ_ _ h=>h.elim) (λy hyl=>?_) ⟨[],l,rfl,rfl,h0⟩ (λpre own h=>?_) (λ_ _ h=>h.elim) ?_ (λown h=>?_) (λ_ _ h=>h.elim)
 .obtain ⟨z,_,rfl⟩:=zl.1 hyl;exact hlen z
 .obtain ⟨p,q,_,_,rfl⟩:=h;rw[(hb p).1];exact(hb p).2
 .obtain ⟨z,_,rfl⟩:=zl.1 hyl;exact hy z
 .obtain ⟨p,q,_,_,rfl⟩:=h;exact(hb p).1
 .rintro x pre y rest own hxs ⟨p,q,hpq,rfl,rfl⟩
  have hq:q≠[]:=λe=>by
   subst e;rw[zz] at hpq;subst hpq;have:=congrArg List.length hxs;simp at this
  obtain⟨z,q',rfl⟩:=List.exists_cons_of_ne_nil hq
  have hyz:y=enc z:=by
   rw[<-hpq,zw,zQ] at hxs;have:=List.append_cancel_left hxs;exact(List.cons.inj this).1
  subst hyz;have hr:=round x p z q' hpq;rw[St.cX] at hr;rw[(hb p).1];refine RC.wp_mono (λe s1 h1=>?_) (RC.lx hr)
  cases e with
  |normal=>
   refine⟨h1.h,?_⟩;have h3:=h1.k;rw[St.cX] at h3;refine RC.wp_mono (λe s3 h4=>?_) (RC.lx h3)
   cases e with
   |normal=>
    obtain⟨lo,h5⟩:=h4.out
    exact⟨_,_,h5,rfl,p++[z],q',by simpa using hpq,by simp,rfl⟩
   |ret=>exact h4.elim
   |exit id=>exact h4.elim
  |ret=>exact h1.elim
  |exit id=>exact h1.elim
 .obtain ⟨p,q,hpq,he,rfl⟩:=h
  have hq:q=[]:=by
   have:=congrArg List.length he;rw[<-hpq] at this;simpa using this
  subst hq;rw[zz] at hpq;subst hpq;exact done
theorem aJ.by{P:Program}{fb:Bool}{c:RC}{s:St}{Q:AX->St->Prop}{α:Type}(up:St->α->St)(inv:α->Prop)(mu:α->Nat)(a0:α)(h0:inv a0)(hw:az s (up s a0))
  (round:∀a,inv a->(up s a).fo fb λs1=>c.gp P fb s1 (og (λs'=>∃a',(inv a'/\mu a'<mu a)/\az s' (up s a')) Q)):aJ P c s Q:=by
 refine⟨λm s1=>∃a,m=mu a/\inv a/\s1=up s a,mu a0,up s a0,hw.out,⟨a0,rfl,h0,rfl⟩,?_⟩;rintro m s1 ⟨a,rfl,ha,rfl⟩;have:=round a ha;rw[St.cX] at this;refine RC.wp_mono (λx s' hx=>?_) (RC.lx this)
 cases x with
 |normal=>
  obtain⟨a',⟨h1,h2⟩,h3⟩:=hx
  exact⟨mu a',up s a',h2,h3.out,a',rfl,h1,rfl⟩
 |exit id=>exact hx
 |ret=>exact hx
theorem aJ.count{P:Program}{fb:Bool}{c:RC}{s:St}{Q:AX->St->Prop}(n:Nat)(up:St->Nat->St)(inv:Nat->Prop)(h0:inv 0)(hw:az s (up s 0))
  (round:∀j,j<n->inv j->(up s j).fo fb λs1=>c.gp P fb s1 (og (λs'=>inv (j+1)/\az s' (up s (j+1))) Q))
  (done:inv n->(up s n).fo fb λs1=>c.gp P fb s1 (og (λ_=>False) Q)):aJ P c s Q:=by
 refine⟨λm s1=>∃j,m=n-j/\(j<=n/\inv j)/\s1=up s j,n,up s 0,hw.out,⟨0,by omega,⟨zJ _,h0⟩,rfl⟩,?_⟩
 rintro m s1 ⟨j,rfl,⟨hj,hi⟩,rfl⟩;rcases zu j n with h|h
 .have:=round j h hi;rw[St.cX] at this;refine RC.wp_mono (λx s' hx=>?_) (RC.lx this)
  cases x with
  |normal=>exact⟨n-(j+1),up s (j+1),by omega,hx.2.out,j+1,rfl,⟨by omega,hx.1⟩,rfl⟩
  |exit id=>exact hx
  |ret=>exact hx
 .have e:j=n:=by omega
  subst e;have:=done hi;rw[St.cX] at this;refine RC.wp_mono (λx s' hx=>?_) (RC.lx this)
  cases x with
  |normal=>exact hx.elim
  |exit id=>exact hx
  |ret=>exact hx
end Go.AM
