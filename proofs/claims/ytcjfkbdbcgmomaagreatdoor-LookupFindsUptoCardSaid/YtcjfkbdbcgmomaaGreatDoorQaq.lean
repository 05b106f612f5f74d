/-
  By an AI agent.
-/
import Derived.Test.YtcjfkbdbcgmomaaGreatDoorQap
set_option linter.unusedSimpArgs false
set_option linter.unusedVariables false
namespace Go.AM
open Go.CK Go.RowKit
structure ak(b:Bool)(A B:Prop):Prop where
 t:b=true->A
 f:b=false->B
theorem ak.yes{b:Bool}{A B:Prop}(h:b=true)(k:A):ak b A B:=⟨λ_=>k,λe=>absurd (h.symm.trans e) (by decide)⟩
theorem ak.no{b:Bool}{A B:Prop}(h:b=false)(k:B):ak b A B:=⟨λe=>absurd (h.symm.trans e) (by decide),λ_=>k⟩
theorem ak.not{b:Bool}{A B:Prop}(k:ak b B A):ak (!b) A B:=⟨λe=>k.f (by simpa using e),λe=>k.t (by simpa using e)⟩
theorem ak.is{p:Prop}[Decidable p]{A B:Prop}(h:p)(k:A):ak (decide p) A B:=.yes (decide_eq_true h) k
theorem ak.isnt{p:Prop}[Decidable p]{A B:Prop}(h:¬p)(k:B):ak (decide p) A B:=.no (decide_eq_false h) k
theorem ak.dec{p:Prop}[Decidable p]{A B:Prop}(h:p->A)(k:¬p->B):ak (decide p) A B:=⟨λe=>h (of_decide_eq_true e),λe=>k (of_decide_eq_false e)⟩
theorem ak.lt{x y:Int}{A B:Prop}(h:x<y->A)(k:y<=x->B):ak (decide (x<y)) A B:=.dec h λe=>k (by omega)
theorem ak.le{x y:Int}{A B:Prop}(h:x<=y->A)(k:y<x->B):ak (decide (x<=y)) A B:=.dec h λe=>k (by omega)
theorem ak.any{b:Bool}{A B:Prop}(h:b=true->A)(k:b=false->B):ak b A B:=⟨h,k⟩
theorem ak.and{b c:Bool}{A B:Prop}(h:ak b (ak c A B) B):ak (b&&c) A B:=by
 cases b
 .exact .no rfl (h.f rfl)
 .exact h.t rfl
theorem ak.or{b c:Bool}{A B:Prop}(h:ak b A (ak c A B)):ak (b||c) A B:=by
 cases b
 .exact h.f rfl
 .exact .yes rfl (h.t rfl)
structure cB(p K:Prop):Prop where
 p:p
 k:K
structure Szs(z:Nat)(l:List AV):Prop where
 out:∀y∈l,y.cells.length=z
theorem Szs.nil{z:Nat}:Szs z []:=⟨λ_ h=>by cases h⟩
theorem Szs.cons{z:Nat}{x:AV}{l:List AV}(h:x.cells.length=z)(k:Szs z l):Szs z (x::l):=⟨λy a=>by rcases zI.1 a with rfl|a;exact h;exact k.out y a⟩
theorem Szs.app{z:Nat}{l m:List AV}(h:Szs z l)(k:Szs z m):Szs z (l++m):=⟨λy a=>by rcases zY.1 a with a|a;exact h.out y a;exact k.out y a⟩
theorem Szs.map{α:Type}{z:Nat}{f:α->AV}{l:List α}(h:∀x,(f x).cells.length=z):Szs z (l.map f):=⟨λy a=>by obtain⟨x,_,rfl⟩:=zk.1 a;exact h x⟩
theorem Szs.take{z:Nat}{l:List AV}(h:Szs z l)(n:Nat):Szs z (l.take n):=⟨λy a=>h.out y (List.mem_of_mem_take a)⟩
theorem Szs.drop{z:Nat}{l:List AV}(h:Szs z l)(n:Nat):Szs z (l.drop n):=⟨λy a=>h.out y (List.mem_of_mem_drop a)⟩
theorem Szs.rep{z n:Nat}{x:AV}(h:x.cells.length=z):Szs z (List.replicate n x):=⟨λy a=>by rw[(ZY.1 a).2];exact h⟩
theorem Szs.set{z:Nat}{l:List AV}(h:Szs z l){x:AV}(b:x.cells.length=z)(i:Nat):Szs z (l.set i x):=⟨λy a=>by rcases List.mem_or_eq_of_mem_set a with a|rfl;exact h.out y a;exact b⟩
structure dz(sz:Nat)(l:List AV)(n:Int)(K:AV->Prop):Prop where
 out:∃y,(0<=n/\l[n.toNat]? =some y/\y.cells.length=sz)/\K y
theorem dz.of{sz:Nat}{l:List AV}{n:Int}{K:AV->Prop}{y:AV}(a:0<=n)(h:l[n.toNat]? =some y)(hs:y.cells.length=sz)(k:K y):dz sz l n K:=⟨y,⟨a,h,hs⟩,k⟩
theorem dz.known{α:Type}{f:α->AV}{sz:Nat}{l:List α}{n:Int}{K:AV->Prop}{x:α}(h:l[n.toNat]? =some x)(a:0<=n)(hs:∀x,(f x).cells.length=sz)(k:K (f x)):dz sz (l.map f) n K:=
 ⟨f x,⟨a,by rw[ZF,h];rfl,hs x⟩,k⟩
theorem dz.map{α:Type}{f:α->AV}{sz:Nat}{l:List α}{n:Int}{K:AV->Prop}(b:0<=n)(c:n<l.length)(hs:∀x,(f x).cells.length=sz)(k:∀x,l[n.toNat]? =some x->K (f x)):dz sz (l.map f) n K:=
 have a:l[n.toNat]? =some (l[n.toNat]'(by omega)):=zA (by omega)
 .known a b hs (k _ a)
theorem dz.NS{α:Type}{f:α->AV}{sz:Nat}{l:List α}{n:Nat}{K:AV->Prop}{x:α}(h:l[n]? =some x)(hs:∀x,(f x).cells.length=sz)(k:K (f x)):dz sz (l.map f) (n:Int) K:=.known (by simpa using h) (by omega) hs k
theorem dz.OK{α:Type}{f:α->AV}{sz:Nat}{l:List α}{n:Nat}{K:AV->Prop}(b:n<l.length)(hs:∀x,(f x).cells.length=sz)(k:∀x,l[n]? =some x->K (f x)):dz sz (l.map f) (n:Int) K:=.map (by omega) (by omega) hs λx a=>k x (by simpa using a)
structure Hg(b:ByteArray)(n:Int)(K:Int->Prop):Prop where
 out:∃y,(0<=n/\b[n.toNat]? =some y)/\K y.toNat
structure mK(k:IntKind)(n:Int)(K:Int->Prop):Prop where
 out:K (k.wrap n)
theorem mK.i64{n:Int}{K:Int->Prop}(h:-9223372036854775808<=n/\n<=9223372036854775807)(k:K n):mK .i64 n K:=⟨by rw[IntWalk.i64_in n ⟨h.1,h.2⟩];exact k⟩
structure tD(l:List AV)(K:Int->Prop):Prop where
 out:K l.length
theorem tD.map{α:Type}{f:α->AV}{l:List α}{K:Int->Prop}(h:K l.length):tD (l.map f) K:=⟨by rw[zF];exact h⟩
theorem tD.nil{K:Int->Prop}(h:K 0):tD [] K:=⟨h⟩
theorem tD.one{x:AV}{K:Int->Prop}(h:K 1):tD [x] K:=⟨h⟩
theorem tD.any{l:List AV}{K:Int->Prop}(h:K l.length):tD l K:=⟨h⟩
def Og(op:BinOp)(a b:AV)(K:AV->Prop):Prop:=
 match a,b with
 |.int k x,.int k' y=>req (decide (k=k')) (match op with
  |.add=>mK k (x+y) λn=>K (.int k n)
  |.sub=>mK k (x-y) λn=>K (.int k n)
  |.mul=>mK k (x*y) λn=>K (.int k n)
  |.quo=>cB (y≠0) (mK k (x.tdiv y) λn=>K (.int k n))
  |.rem=>cB (y≠0) (K (.int k (x.tmod y)))
  |.shr=>cB (0<=y) (K (.int k (x/2^min y.toNat k.bits)))
  |.eql=>K (.bool (decide (x=y)))
  |.neq=>K (.bool (!decide (x=y)))
  |.lss=>K (.bool (decide (x<y)))
  |.leq=>K (.bool (decide (x<=y)))
  |.gtr=>K (.bool (decide (y<x)))
  |.geq=>K (.bool (decide (y<=x)))
  |_=>False)
 |.str x,.str y=>match op with
  |.add=>cB (x.size+y.size<=lim) (K (.str (x++y)))
  |.eql=>K (.bool (decide (x=y)))
  |.neq=>K (.bool (!decide (x=y)))
  |op=>Bw op (.str x) (.str y) K
 |a,b=>Bw op a b K
theorem Of{op:BinOp}{a b:AV}{K:AV->Prop}(h:Og op a b K):Bw op a b K:=by
 unfold Og at h;split at h
 .unfold Bw;obtain⟨d,c⟩:=af.1 h;refine af.2 ⟨d,?_⟩;cases op<;>first|exact c|exact c.out|exact⟨c.p,c.k.out⟩|exact⟨c.p,c.k⟩
 .split at h
  .exact ⟨h.p,h.k⟩
  .exact h
  .exact h
  .exact h
 .exact h
def Ni(sz:Nat)(x:AV)(lo d mx:Option AV)(K:AV->Prop):Prop:=
 match x with
 |.sl _ l=>bnd lo 0 λa=>bnd d l.length λb=>match mx with
  |none=>cB (Szs sz l) (cB (0<=a/\a<=b/\b<=l.length) (K (.sl .no ((l.take b.toNat).drop a.toNat))))
  |some _=>bnd mx 0 λm=>cB (Szs sz l) (cB (0<=a/\a<=b/\b=m/\m<=l.length) (K (.sl .full ((l.take b.toNat).drop a.toNat))))
 |.bsl b m k=>bnd lo 0 λa=>bnd d m λc=>match mx with
  |none=>cB (a=0/\0<=c/\c<=k/\c<=4294967296) (K (.bsl b c.toNat k))
  |some _=>bnd mx 0 λq=>cB (a=0/\0<=c/\c<=q/\q<=k/\c<=4294967296) (K (.bsl b c.toNat q.toNat))
 |_=>False
theorem Nh{sz:Nat}{x:AV}{lo d mx:Option AV}{K:AV->Prop}(h:Ni sz x lo d mx K):Et sz x lo d mx K:=by
 unfold Ni at h;unfold Et;split at h
 .refine b6 (λa c=>b6 (λb hb=>?_) c) h;split at hb
  .exact ⟨⟨hb.p.out,hb.k.p⟩,hb.k.k⟩
  .exact b6 (λm hm=>⟨⟨hm.p.out,hm.k.p⟩,hm.k.k⟩) hb
 .refine b6 (λa c=>b6 (λb hb=>?_) c) h;split at hb
  .exact ⟨hb.p,hb.k⟩
  .exact b6 (λm hm=>⟨hm.p,hm.k⟩) hb
 .exact h.elim
def J1(g:mD)(ab:List AV)(K:AV->Prop):Prop:=
 match g,ab with
 |.cap,[.sl .full l]=>tD l λn=>K (.int .i64 n)
 |g,ab=>match g.val ab with
  |some (.ok r)=>K r
  |some (.need p r)=>cB p (K r)
  |none=>False
theorem GI{g:mD}{ab:List AV}{K:AV->Prop}(h:J1 g ab K):di g ab K:=by
 unfold J1 at h;unfold di;split at h
 .exact h.out
 .split at h
  .rename_i r a;simp only[a];exact h
  .rename_i p r a;simp only[a];exact⟨h.p,h.k⟩
  .exact h.elim
def RX.pP(rx:RX)(ev:Opd->AV)(rd:AV->Option (List AV))(K:AV->Prop):Prop:=
 match rx with
 |.pick c a b=>match ev c with
  |.bool t=>ak t (K (ev a)) (K (ev b))
  |_=>False
 |.idx sz x i=>match ev x,ev i with
  |.sl _ l,.int _ n=>dz sz l n λy=>K (.ept y.cells)
  |.bsl b m _,.int _ n=>cB (0<=n/\n<m) (K (.elp b n.toNat sz 0))
  |_,_=>False
 |.pG x i=>match ev x,ev i with
  |.str b,.int _ n=>Hg b n λy=>K (.int .u8 y)
  |_,_=>False
 |.len str o=>match str,ev o with
  |false,.sl _ l=>tD l λn=>K (.int .i64 n)
  |false,.bsl _ m _=>K (.int .i64 m)
  |false,.lit _ m _=>K (.int .i64 m)
  |true,.str b=>K (.int .i64 b.size)
  |_,_=>False
 |.un op o=>match op,ev o with
  |.neg,.int k n=>mK k (0-n) λn=>K (.int k n)
  |.not,.bool b=>K (.bool (!b))
  |_,_=>False
 |.conv k o=>match k,ev o with
  |some k,.int _ n=>mK k n λn=>K (.int k n)
  |none,.str b=>K (.str b)
  |_,_=>False
 |.bin op x y=>Og op (ev x) (ev y) K
 |.mk sz z l c=>match ev l,ev c with
  |.int _ n,.int _ m=>cB (0<=n/\n<=m/\m<=4294967296) (K (.sl (.own sz) (List.replicate n.toNat z)))
  |_,_=>False
 |.iX mx x y=>match ev x,ev y with
  |.int k a,.int k' b=>req (decide (k=k')) (match mx with
   |true=>K (.int k (max a b))
   |false=>K (.int k (min a b)))
  |_,_=>False
 |.Bh d sz x i=>match ev i with
  |.int _ n=>req (C1 (ev x)) (cB (0<=n/\n<(d:Int)) (K (tH (n.toNat*sz) (ev x))))
  |_=>False
 |.slc sz x lo e mx=>Ni sz (ev x) (lo.map ev) (e.map ev) (mx.map ev) K
 |.more g args=>J1 g (evs ev args) K
 |.aM sz rs=>dR ev sz rs λl=>fvs l λl=>K (.sl .full l)
 |rx=>rx.pK ev rd K
theorem RX.ti{rx:RX}{ev:Opd->AV}{rd:AV->Option (List AV)}{K:AV->Prop}(h:rx.pP ev rd K):rx.pK ev rd K:=by
 cases rx<;>try exact h
 .simp only[RX.pP,RX.pK,mmK] at h|-;split at h
  .rename_i mx _ _ _ _ _ _ _ _ a b;rw[a,b];simp only;obtain⟨d,c⟩:=af.1 h;refine af.2 ⟨d,?_⟩;cases mx<;>exact c
  .exact h.elim
 .simp only[RX.pP,RX.pK,x8] at h|-;split at h
  .rename_i a;rw[a];simp only;obtain⟨d,c⟩:=af.1 h;exact af.2 ⟨d,c.p,c.k⟩
  .exact h.elim
 .exact Nh h
 .simp only[RX.pP,RX.pK,xJ] at h|-;split at h
  .rename_i a;rw[a];exact⟨h.t,h.f⟩
  .exact h.elim
 .simp only[RX.pP,RX.pK,Ib] at h|-;split at h
  .rename_i a b;rw[a,b];exact h.out
  .rename_i a b;rw[a,b];exact⟨h.p,h.k⟩
  .exact h.elim
 .simp only[RX.pP,RX.pK,x6] at h|-;split at h
  .rename_i a b;rw[a,b];exact h.out
  .exact h.elim
 .simp only[RX.pP,RX.pK,H2] at h|-;split at h
  .rename_i a;rw[a];exact h.out
  .rename_i a;rw[a];exact h
  .rename_i a;rw[a];exact h
  .rename_i a;rw[a];exact h
  .exact h.elim
 .simp only[RX.pP,RX.pK,unK] at h|-;split at h
  .rename_i a;rw[a];exact h.out
  .rename_i a;rw[a];exact h
  .exact h.elim
 .simp only[RX.pP,RX.pK,yj] at h|-;split at h
  .rename_i a;rw[a];exact h.out
  .rename_i a;rw[a];exact h
  .exact h.elim
 .exact Of h
 .simp only[RX.pP,RX.pK,KE] at h|-;exact h
 .simp only[RX.pP,RX.pK,mkK] at h|-;split at h
  .rename_i a b;rw[a,b];exact⟨h.p,h.k⟩
  .exact h.elim
 .exact GI h
def Oj(z:Nat)(s:St)(o:Opd)(x:AV)(K:AV->St->Prop):Prop:=
 match x with
 |.sl _ xs=>match o with
  |.t t=>match s.get t with
   |.sl (.own a) l=>req (Nat.beq z a) (cB (Szs z xs) (cB (l.length+xs.length<=lim) (K (.sl (.own z) (l++xs)) (s.put (some t) (.sl .no l)))))
   |.sl .full l=>cB (Szs z (l++xs)) (cB (l.length+xs.length<=lim) (K (.sl (.own z) (l++xs)) s))
   |_=>False
  |.c (.sl .full l)=>cB (Szs z (l++xs)) (cB (l.length+xs.length<=lim) (K (.sl (.own z) (l++xs)) s))
  |_=>False
 |_=>False
theorem Oi{z:Nat}{s:St}{o:Opd}{x:AV}{K:AV->St->Prop}(h:Oj z s o x K):fy z s o x K:=by
 unfold Oj at h;unfold fy;split at h
 .split at h
  .split at h
   .rename_i b;simp only[b];obtain⟨c,a⟩:=af.1 h;exact af.2 ⟨c,⟨a.p.out,a.k.p⟩,a.k.k⟩
   .rename_i b;simp only[b];exact⟨⟨h.p.out,h.k.p⟩,h.k.k⟩
   .exact h.elim
  .exact ⟨⟨h.p.out,h.k.p⟩,h.k.k⟩
  .exact h.elim
 .exact h.elim
structure MK(P:Program)(f:FuncId)(K:Prop):Prop where
 h:dQ P f=true
 k:K
structure gi(bs:List Box)(b:Nat)(K:List AV->Prop):Prop where
 out:∃cs,aa bs b=some cs/\K cs
structure jI(bs:List Box)(b:Nat)(cs:List AV)(K:List Box->Prop):Prop where
 out:K (bs.set b (.cells cs))
theorem gi.of{bs:List Box}{b:Nat}{K:List AV->Prop}{cs:List AV}(h:aa bs b=some cs)(k:K cs):gi bs b K:=⟨cs,h,k⟩
theorem gi.last{bs:List Box}{K:List AV->Prop}{cs:List AV}(k:K cs):gi (bs++[.cells cs]) bs.length K:=.of (by rw[aq,if_pos rfl];rfl) k
theorem gi.last2{bs:List Box}{K:List AV->Prop}{cs:List AV}{x:Box}(k:K cs):gi ((bs++[.cells cs])++[x]) bs.length K:=.of (by rw[aq,if_neg (by simp),aq,if_pos rfl];rfl) k
theorem jI.last{bs:List Box}{c:Box}{cs:List AV}{K:List Box->Prop}(k:K (bs++[.cells cs])):jI (bs++[c]) bs.length cs K:=⟨by simpa using k⟩
def ldK(agg:Bool)(n:Nat)(l:List AV)(K:AV->Prop):Prop:=
 match agg with
 |true=>req (Nat.ble n l.length) (K (.agg ((l.map AV.aI).take n)))
 |false=>match l with
  |c::_=>match c with
   |.sl (.own _) _=>False
   |c=>K c
  |[]=>False
theorem xX{s:St}{b off:Nat}{cs:List AV}(hb:aa s.bs b=some cs){agg:Bool}{n:Nat}{K:AV->Prop}(h:ldK agg n (cs.drop off) K):bV agg n (s.rd (.ptr b off)) K:=by
 unfold ldK at h;simp only[St.rd,hb,bV]
 cases agg with
 |true=>simpa using h
 |false=>
  simp only at h|-
  cases a:cs.drop off with
  |nil=>rw[a] at h;exact h.elim
  |cons c r=>
   rw[a] at h;simp only[zP]
   cases c with
   |sl o l=>cases o with
    |own z=>exact h.elim
    |_=>exact h
   |_=>exact h
theorem E9{s:St}{b off:Nat}{cs:List AV}(hb:aa s.bs b=some cs){agg:Bool}{n:Nat}{d:Option Nat}{K:St->Prop}(h:ldK agg n (cs.drop off) λr=>K (s.put d r)):eA agg n s d (.ptr b off) K:=by
 have g:=xX (s:=s) hb h;unfold eA;split
 .rename_i t i e he;cases he;have c:s.at (.bx b off)=cs[off]?:=by simp[St.at,hb]
  rw[c];split
  .rename_i z l f;have a:off<cs.length:=(zB.1 f).1
   have:cs.drop off=.sl (.own z) l::cs.drop (off+1):=by
    rw[zH a,(zB.1 f).2]
   rw[this] at h;exact h.elim
  .exact g
 .exact g
def stV(s:St)(x:Opd):Bool:=match x with
 |.t k=>match s.get k with
  |.sl (.own _) _=>false
  |_=>true
 |_=>true
def stK(n:Nat)(s:St)(b off:Nat)(v:AV)(K:St->Prop):Prop:=gi s.bs b λcs=>req (ba v&&(Nat.beq v.cells.length n&&Nat.ble (off+n) cs.length)) (fsq (setAt cs off v.cells) λcs=>jI s.bs b cs λbs=>K (s.wb bs))
theorem pf{n:Nat}{s:St}{b off:Nat}{v:AV}{K:St->Prop}(h:stK n s b off v K):bW n s (.ptr b off) v K:=by
 obtain⟨cs,f,e⟩:=h.out;obtain⟨d,c⟩:=af.1 e;simp only[bW,f];rw[FA] at c;have a:=c.out;rw[St.Gb] at a;exact af.2 ⟨d,a⟩
def stO(s:St)(x:Opd):Option (Nat×Nat×List AV):=match x with
 |.t k=>match s.get k with
  |.sl (.own z) l=>some (k,z,l)
  |_=>none
 |_=>none
def Oz(n:Nat)(s:St)(b off k z:Nat)(l:List AV)(K:St->Prop):Prop:=req (Nat.beq n 1) (gi s.bs b λcs=>req (Nat.blt off cs.length) (fsq (cs.set off (.sl (.own z) l)) λcs=>jI s.bs b cs λbs=>K ((s.wb bs).pt (some k) (.sl .no l))))
theorem Jr{s:St}{x:Opd}(h:stO s x=none):stV s x=true:=by
 unfold stO at h;unfold stV
 cases x with
 |t k=>
  simp only at h|-;split
  .rename_i z l a;rw[a] at h;cases h
  .rfl
 |c v=>rfl
theorem Ad{n:Nat}{s:St}{b off k z:Nat}{l:List AV}{x:Opd}{K:St->Prop}(a:stO s x=some (k,z,l))(h:Oz n s b off k z l K):gn n s (.ptr b off) x K:=by
 obtain⟨p,h⟩:=af.1 h;obtain rfl:=zO p;obtain⟨cs,g,o⟩:=h.out;obtain⟨m,f⟩:=af.1 o;rw[FA] at f;have d:=f.out;rw[St.Gb,St.oU] at d;unfold stO at a
 cases x with
 |c v=>cases a
 |t k'=>
  simp only at a;split at a
  .rename_i q l' i;cases a;simp only[gn,i,g];refine af.2 ⟨m,?_⟩;obtain⟨e,bs,lo⟩:=s;have j:aa (bs.set b (.cells (cs.set off (.sl .no l)))) b=some (cs.set off (.sl .no l)):=by rw[a7 g,if_pos rfl]
   simp only[St.aU,St.upd,j,List.set_set] at d|-;exact d
  .cases a
theorem BS{n:Nat}{s:St}{b off:Nat}{x:Opd}{K:St->Prop}(d:stV s x=true)(h:stK n s b off (s.ev x) K):gn n s (.ptr b off) x K:=by
 have c:=pf h;unfold gn;split
 .rename_i f a k he;cases he;split
  .rename_i z l e;simp[stV,e] at d
  .exact c
 .rename_i he;cases he
 .exact c
structure oe(z:Nat)(s:St)(x y:AV)(K:AV->St->Prop):Prop where
 out:oP z s x y K
structure MJ(z:Nat)(s:St)(x y:AV)(K:AV->St->Prop):Prop where
 out:sq z s x y K
structure F9(l:List AV)(K:Bool->Prop):Prop where
 out:(l≠[]->K false)/\(l=[]->∀b,K b)
structure MkN(z:Nat)(zx:AV)(s:St)(l c:AV)(K:AV->St->Prop):Prop where
 out:mkB z zx s l c K
structure Ef(l:List (Int×AV))(n:Int)(ok:Bool)(z:AV)(K:AV->Prop):Prop where
 out:match nG l n with
  |some x=>gk x=true/\K (okR ok x true)
  |none=>K (okR ok z false)
structure MqN(l:List (Int×AV×Nat))(n:Int)(ok:Bool)(z:AV)(K:AV->Prop):Prop where
 out:match JK l n with
  |some x=>gk x=true/\K (okR ok x true)
  |none=>K (okR ok z false)
structure EntN(zx:AV)(s:St)(m k:AV)(K:AV->St->Prop):Prop where
 out:KX zx s m k K
structure StoN(s:St)(m j v:AV)(K:St->Prop):Prop where
 out:Jq s m j v K
structure qZ(z:Nat)(ab:List AV)(s:St)(K:AV->St->Prop):Prop where
 out:ME z ab s K
structure SsN(ks:List FK)(s:St)(m k v:AV)(K:St->Prop):Prop where
 out:Jy ks s m k v K
structure SgN(ks:List FK)(ok:Bool)(z:AV)(s:St)(m k:AV)(K:AV->Prop):Prop where
 out:KD ks ok z s m k K
structure TbN(e:TbE)(ab:List AV)(s:St)(d:Option Nat)(K:St->Prop):Prop where
 out:tbK e ab s d K
def OD(x n:AV)(s:St)(d:Option Nat)(K:St->Prop):Prop:=
 match x,n with
 |.sl .full [],.int _ n=>cB (n=0) (K (s.put d (.sl .full [])))
 |_,_=>False
structure BG(bs:List Box)(b:Nat)(K:List (Int×AV)->Prop)(Kq:List (Int×AV×Nat)->Nat->Prop):Prop where
 out:(∃l,bs[b]? =some (.mp l)/\K l)\/(∃l c,bs[b]? =some (.mq l c)/\Kq l c)
theorem BG.of{bs:List Box}{b:Nat}{K:List (Int×AV)->Prop}{Kq:List (Int×AV×Nat)->Nat->Prop}{l:List (Int×AV)}(h:bs[b]? =some (.mp l))(k:K l):BG bs b K Kq:=⟨.inl ⟨l,h,k⟩⟩
def ML(s:St)(m k v:AV)(K:St->Prop):Prop:=
 match m,k with
 |.mpt b,.int .i64 n=>match s with
  |⟨e,bs,lo⟩=>BG bs b (λl=>cB (gk v=true) (K ⟨e,bs.set b (.mp (iW l n v)),lo⟩)) λl c=>cB (gk v=true) (K ⟨e,bs.set b (.mq (wW l n v c) (Co l n c)),lo⟩)
 |_,_=>False
def MV(ok:Bool)(z:AV)(s:St)(m k:AV)(K:AV->Prop):Prop:=
 match m,k with
 |.mpt b,.int .i64 n=>match s with
  |⟨_,bs,_⟩=>BG bs b (λl=>Ef l n ok z K) λl _=>MqN l n ok z K
 |.nmp,.int .i64 _=>K (okR ok z false)
 |_,_=>False
def Mb(s:St)(d:Option Nat)(K:St->Prop):Prop:=match s with
 |⟨e,bs,lo⟩=>K (St.pt ⟨e,bs++[.mp []],lo⟩ d (.mpt bs.length))
theorem Ma{s:St}{d:Option Nat}{K:St->Prop}:Mb s d K=Mc s d K:=by cases s;simp only[Mb,Mc,St.oU]
def L9(s:St)(d:Option Nat)(o:Opd)(K:St->Prop):Prop:=
 match o with
 |.c x=>K (s.pt d x)
 |.t t=>match s.get t with
  |.sl (.own z) l=>match d with
   |some d=>req (!(Nat.beq d t)) (K (((s.pt (some d) (.sl .no l)).pt (some t) (.sl .no l)).pt (some d) (.sl (.own z) l)))
   |none=>False
  |x=>K (s.pt d x)
theorem L8{s:St}{d:Option Nat}{o:Opd}{K:St->Prop}:L9 s d o K=tv s d o K:=by
 unfold L9 tv;simp only[St.oU];rfl
def Oe(s:St)(d:Option Nat)(x:AV)(K:St->Prop):Prop:=match s with
 |⟨e,bs,lo⟩=>req (ba x) (fsq x.cells λcs=>K (St.pt ⟨e,bs++[.cells cs],lo⟩ d (.ptr bs.length 0)))
theorem MF{s:St}{d:Option Nat}{x:AV}{K:St->Prop}:Oe s d x K=IN s x λr a=>K (a.put d r):=by
 cases s;simp only[Oe,IN,FA,St.oU,St.gh]
def N6(e:Eff)(ab:List AV)(s:St)(d:Option Nat)(K:St->Prop):Prop:=
 match e,ab with
 |.oP z,[x,y]=>oe z s x y λr a=>K (a.pt d r)
 |.sq z,[x,y]=>MJ z s x y λr a=>K (a.pt d r)
 |.slN,[x,n]=>OD x n s d K
 |.mkM,[]=>Mb s d K
 |.mkM,[.int _ _]=>Mb s d K
 |.BX,[m,k,v]=>ML s m k v K
 |.getM ok f,[m,k]=>MV ok f s m k λr=>K (s.pt d r)
 |.mkB z f,[l,c]=>MkN z f s l c λr a=>K (a.pt d r)
 |.N4 f,[m,k]=>EntN f s m k λr a=>K (a.pt d r)
 |.Nc,[m,j,v]=>StoN s m j v K
 |.bsR z,ab=>qZ z ab s λr a=>K (a.pt d r)
 |.A5 neg,[.sl _ l]=>F9 l λb=>K (s.pt d (.bool (bY neg b)))
 |.Nl g,[m,k,v]=>SsN g s m k v K
 |.NY g ok f,[m,k]=>SgN g ok f s m k λr=>K (s.pt d r)
 |.tab e,ab=>TbN e ab s d K
 |_,_=>False
theorem N5{e:Eff}{ab:List AV}{s:St}{d:Option Nat}{K:St->Prop}(h:N6 e ab s d K):sf e ab s d K:=by
 unfold N6 at h;simp only[St.oU,Ma] at h;unfold sf;split at h
 .exact h.out
 .exact h.out
 .unfold OD at h;unfold Eu;split at h
  .exact ⟨h.p,h.k⟩
  .exact h.elim
 .exact h
 .exact h
 .unfold ML at h;unfold ue;split at h
  .obtain ⟨e,bs,lo⟩:=s;rcases h.out with ⟨l,hb,a⟩|⟨l,c,hb,a⟩<;>simp only[hb]<;>exact⟨a.p,a.k⟩
  .exact h.elim
 .unfold MV at h;unfold vK;split at h
  .obtain ⟨e,bs,lo⟩:=s;rcases h.out with ⟨l,hb,a⟩|⟨l,c,hb,a⟩<;>simp only[hb]<;>exact a.out
  .exact h
  .exact h.elim
 .exact h.out
 .exact h.out
 .exact h.out
 .exact h.out
 .exact h.out
 .exact h.out
 .exact h.out
 .exact h.out
 .exact h.elim
structure ElN(agg:Bool)(n:Nat)(s:St)(p:AV)(K:AV->Prop):Prop where
 out:bV agg n (s.rd p) K
structure EsN(n:Nat)(s:St)(b i z off:Nat)(v:AV)(K:St->Prop):Prop where
 out:lM n s b i z off v K
def RX.gp(P:Program)(fb a:Bool)(rx:RX)(s:St)(d:Option Nat)(K:St->Prop):Prop:=
 match rx with
 |.call f args=>wi P a s d (s.ev f) (evs s.ev args) K
 |.dM f args=>match s.ev f with
  |.fn (.func k) xs ys=>MK P k (wi P a s d (.fn (.func k) xs ys) (evs s.ev args) K)
  |.yl b=>wi P a s d (.yl b) (evs s.ev args) K
  |_=>False
 |.mov o=>match a with
  |true=>K (s.pt d (s.ev o))
  |false=>L9 s d o K
 |.take t=>L9 s d (.t t) K
 |.box o=>Oe s d (s.ev o) K
 |.load agg n o=>match s.ev o with
  |.elp b i z off=>ElN agg n s (.elp b i z off) λr=>K (s.pt d r)
  |p=>match fb with
   |true=>match a with
    |true=>bV agg n (s.rd p) λr=>K (s.pt d r)
    |false=>eA agg n s d p K
   |false=>match p with
    |.ptr b off=>gi s.bs b λcs=>ldK agg n (cs.drop off) λr=>K (s.pt d r)
    |p=>match a with
     |true=>bV agg n (s.rd p) λr=>K (s.pt d r)
     |false=>eA agg n s d p K
 |.store n p x=>match s.ev p with
  |.elp b i z off=>match a with
   |true=>False
   |false=>EsN n s b i z off (s.ev x) K
  |q=>match fb with
   |true=>match a with
    |true=>bW n s q (s.ev x) K
    |false=>gn n s q x K
   |false=>match q with
    |.ptr b off=>match a with
     |true=>stK n s b off (s.ev x) K
     |false=>match stO s x with
      |some (k,z,l)=>Oz n s b off k z l K
      |none=>stK n s b off (s.ev x) K
    |_=>False
 |.stn bnd n p x=>match a with
  |true=>match s.ev p with
   |.ptr b off=>req (Nat.ble bnd b) (match fb with
    |true=>bW n s (.ptr b off) (s.ev x) K
    |false=>req (stV s x) (stK n s b off (s.ev x) K))
   |_=>False
  |false=>False
 |.append z o x=>Oj z s o (s.ev x) λr c=>K (c.pt d r)
 |.eff e args=>match a with
  |true=>False
  |false=>N6 e (evs s.ev args) s d K
 |rx=>rx.pP s.ev s.rd λr=>K (s.pt d r)
theorem RX.ml{P:Program}{fb m:Bool}{rx:RX}{s:St}{d:Option Nat}{K:St->Prop}(h:rx.gp P fb m s d K):rx.run P m s d K:=by
 unfold RX.gp at h;simp only[St.oU,L8,MF] at h
 cases rx with
 |call f args=>cases m<;>simpa only[RX.gp,RX.run,wg] using h
 |dM f args=>
  simp only[RX.gp] at h;simp only[RX.run];split at h
  .rename_i k xs ys he;rw[he];have j:=h.k;rw[wg] at j;exact⟨h.h,by cases m<;>exact j⟩
  .rename_i b he;rw[he];rw[wg] at h;exact⟨trivial,by cases m<;>exact h⟩
  .exact h.elim
 |append z o x=>exact Oi (K:=λr u=>K (u.put _ r)) h
 |mov|take|box=>exact h
 |eff e args=>
  cases m with
  |true=>exact h.elim
  |false=>exact N5 h
 |load agg n o=>
  simp only[RX.gp,RX.run] at h|-;split at h
  .rename_i b i z off he;rw[he];have j:=h.out
   cases m with
   |true=>exact j
   |false=>cases agg<;>cases d<;>exact j
  .cases fb with
   |true=>exact h
   |false=>
    simp only at h;split at h
    .rename_i b off he;obtain⟨cs,q,j⟩:=h.out;rw[he]
     cases m with
     |true=>exact xX q j
     |false=>exact E9 q j
    .exact h
 |store n p x=>
  simp only[RX.gp,RX.run] at h|-;split at h
  .rename_i b i z off he;rw[he]
   cases m with
   |true=>exact h.elim
   |false=>
    have j:=h.out;rcases n with _|_|n<;>first|exact j|(cases x<;>exact j)
  .cases fb with
   |true=>exact h
   |false=>
    simp only at h;split at h
    .rename_i b off he;rw[he]
     cases m with
     |true=>exact pf h
     |false=>
      simp only at h;split at h
      .rename_i k z l t;exact Ad t h
      .rename_i t;exact BS (Jr t) h
    .exact h.elim
 |stn bnd n p x=>
  cases m with
  |false=>exact h.elim
  |true=>
   simp only[RX.gp,RX.run,wK] at h|-;split at h
   .rename_i b off he;rw[he];obtain⟨q,j⟩:=af.1 h;refine af.2 ⟨q,?_⟩
    cases fb with
    |true=>exact j
    |false=>exact pf (af.1 j).2
   .exact h.elim
 |iX mx x y=>exact RX.ti (rx:=.iX mx x y) (ev:=s.ev) (rd:=s.rd) (K:=λr=>K (s.put _ r)) h
 |Bh a b x i=>exact RX.ti (rx:=.Bh a b x i) (ev:=s.ev) (rd:=s.rd) (K:=λr=>K (s.put _ r)) h
 |slc a b c d e=>exact RX.ti (rx:=.slc a b c d e) (ev:=s.ev) (rd:=s.rd) (K:=λr=>K (s.put _ r)) h
 |pick a b c=>exact RX.ti (rx:=.pick a b c) (ev:=s.ev) (rd:=s.rd) (K:=λr=>K (s.put _ r)) h
 |idx a b c=>exact RX.ti (rx:=.idx a b c) (ev:=s.ev) (rd:=s.rd) (K:=λr=>K (s.put _ r)) h
 |pG a b=>exact RX.ti (rx:=.pG a b) (ev:=s.ev) (rd:=s.rd) (K:=λr=>K (s.put _ r)) h
 |len a b=>exact RX.ti (rx:=.len a b) (ev:=s.ev) (rd:=s.rd) (K:=λr=>K (s.put _ r)) h
 |un a b=>exact RX.ti (rx:=.un a b) (ev:=s.ev) (rd:=s.rd) (K:=λr=>K (s.put _ r)) h
 |conv a b=>exact RX.ti (rx:=.conv a b) (ev:=s.ev) (rd:=s.rd) (K:=λr=>K (s.put _ r)) h
 |bin a b c=>exact RX.ti (rx:=.bin a b c) (ev:=s.ev) (rd:=s.rd) (K:=λr=>K (s.put _ r)) h
 |aM a b=>exact RX.ti (rx:=.aM a b) (ev:=s.ev) (rd:=s.rd) (K:=λr=>K (s.put _ r)) h
 |more g a=>exact GI (K:=λr=>K (s.put _ r)) h
 |mk a b c d=>exact RX.ti (rx:=.mk a b c d) (ev:=s.ev) (rd:=s.rd) (K:=λr=>K (s.put _ r)) h
 |_=>exact h
def ROp.gp(P:Program)(fb a:Bool)(r:ROp)(s:St)(K:St->Prop):Prop:=
 match r.guard with
 |none=>r.rx.gp P fb a s r.dst K
 |some (g,want)=>match s.ev (.t g) with
  |.bool b=>match want with
   |true=>ak b (r.rx.gp P fb a s r.dst K) (K (s.pt r.dst (.tup [])))
   |false=>ak b (K (s.pt r.dst (.tup []))) (r.rx.gp P fb a s r.dst K)
  |.tup []=>K (s.pt r.dst (.tup []))
  |_=>False
theorem ROp.ml{P:Program}{fb c:Bool}{r:ROp}{s:St}{K:St->Prop}(h:r.gp P fb c s K):r.run P c s K:=by
 unfold ROp.gp at h;simp only[St.oU] at h;unfold ROp.run;split at h
 .rename_i a;rw[a];exact RX.ml h
 .rename_i g want a;rw[a];simp only;split at h
  .rename_i b hb;rw[hb];simp only[gv]
   cases want with
   |true=>exact⟨λe=>RX.ml (h.t e),λe=>h.f (by cases b;rfl;exact absurd rfl e)⟩
   |false=>exact⟨λe=>RX.ml (h.f e),λe=>h.t (by cases b;exact absurd rfl e;rfl)⟩
  .rename_i hb;rw[hb];simp only[gv];exact⟨λe=>(by cases want<;>cases e),λ_=>h⟩
  .exact h.elim
def NH(P:Program)(fb:Bool)(b:Bool):List ROp->St->(St->Prop)->Prop
 |[],s,K=>K s
 |r::rs,s,K=>r.gp P fb b s λa=>a.fo fb λa=>NH P fb b rs a K
theorem JP{P:Program}{fb b:Bool}:∀{rs:List ROp} {s:St} {K:St->Prop},NH P fb b rs s K->AO P b rs s K
 |[],_,_,h=>h
 |r::rs,s,K,h=>by
  refine ROp.mono (λc a=>?_) (ROp.ml h);rw[St.dj] at a;exact JP a
def Ju(P:Program)(fb:Bool)(p:Nat):Nat->List ROp->St->(St->Prop)->Prop
 |_,[],s,K=>K s
 |i,r::rs,s,K=>r.gp P fb (!(Nat.beq i p)) s λa=>a.fo fb λa=>Ju P fb p (i+1) rs a K
theorem Gq{P:Program}{fb:Bool}{p:Nat}:∀{rs:List ROp} {i:Nat} {s:St} {K:St->Prop},Ju P fb p i rs s K->uc P p i rs s K
 |[],_,_,_,h=>h
 |r::rs,i,s,K,h=>by
  refine ROp.mono (λb a=>?_) (ROp.ml h);rw[St.dj] at a;exact Gq a
def sR(P:Program)(fb:Bool)(V:List Nat):List (Nat×ROp)->St->(St->Prop)->Prop
 |[],s,K=>K s
 |(c,r)::l,s,K=>match c with
  |0=>r.gp P fb true s λa=>a.fo fb λa=>sR P fb V l a K
  |1=>r.gp P fb false s λa=>a.fo fb λa=>sR P fb V l a K
  |_+2=>r.gp P fb false s λa=>a.fo fb λa=>Ee (Fy s V) s.bs a.bs (sR P fb V l a K)
theorem mc{P:Program}{fb:Bool}{V:List Nat}:∀{q:List (Nat×ROp)} {s:St} {K:St->Prop},sR P fb V q s K->iV P V q s K
 |[],_,_,h=>h
 |(0,r)::l,s,K,h=>by
  refine ROp.mono (λb a=>?_) (ROp.ml h);rw[St.dj] at a
  exact mc a
 |(1,r)::l,s,K,h=>by
  refine ROp.mono (λb a=>?_) (ROp.ml h);rw[St.dj] at a
  exact mc a
 |(_+2,r)::l,s,K,h=>by
  refine ROp.mono (λb a=>?_) (ROp.ml h);rw[St.dj] at a;exact⟨a.h,mc a.k⟩
structure ra(p q:Prop):Prop where
 p:p
 q:q
structure ax(P:Program)(c:RC)(s:St)(Q:AX->St->Prop):Prop where
 out:(RC.loop c).wp P s Q
structure jl(P:Program)(g:Opd)(ps:List Nat)(a b:RC)(s:St)(Q:AX->St->Prop):Prop where
 out:(RC.range g ps a b).wp P s Q
def RC.gp(P:Program)(fb:Bool):RC->St->(AX->St->Prop)->Prop
 |.skip,s,Q=>Q .normal s
 |.reg j keep ops,s,Q=>NH P fb j ops s λd=>(d.kp keep).fo fb λd=>Q .normal d
 |.solo p keep ops,s,Q=>Ju P fb p 0 ops s λd=>(d.kp keep).fo fb λd=>Q .normal d
 |.mult keep ops,s,Q=>sR P fb (iY ops) ops s λd=>(d.kp keep).fo fb λd=>Q .normal d
 |.both keep e h f,s,Q=>sR P fb (aX e h f) e s λi=>ra (sR P fb (aX e h f) h i λd=>(d.kp keep).fo fb λd=>Q .normal d) (sR P fb (aX e h f) f i λd=>(d.kp keep).fo fb λd=>Q .normal d)
 |.seq a b,s,Q=>a.gp P fb s (oS (λd=>b.gp P fb d Q) Q)
 |.cond c a b,s,Q=>match s.ev c with
  |.bool t=>ak t (a.gp P fb s Q) (b.gp P fb s Q)
  |_=>False
 |.block id c,s,Q=>c.gp P fb s (wu id Q)
 |.loop c,s,Q=>ax P c s Q
 |.range g ps a b,s,Q=>jl P g ps a b s Q
 |.exit id,s,Q=>Q (.exit id) s
 |.ret,s,Q=>Q .ret s
theorem RC.lB{P:Program}{fb:Bool}:∀{c:RC} {s:St} {Q:AX->St->Prop},c.gp P fb s Q->c.wp P s Q
 |.skip,_,_,h=>h
 |.reg u keep ops,s,Q,h=>ij (λi d=>by rwa [St.dj] at d) (JP h)
 |.solo p keep ops,s,Q,h=>lN (λi d=>by rwa [St.dj] at d) (Gq h)
 |.mult keep ops,s,Q,h=>bg (λi d=>by rwa [St.dj] at d) (mc h)
 |.both keep n r o,s,Q,h=>bg (λm d=>⟨bg (λi d=>by rwa [St.dj] at d) (mc d.p),bg (λi d=>by rwa [St.dj] at d) (mc d.q)⟩) (mc h)
 |.seq a b,s,Q,h=>RC.wp_mono (c:=a) (λx i j=>pd (λs2 l=>RC.lB (c:=b) l) x i j) (RC.lB (c:=a) h)
 |.cond c a b,s,Q,h=>by
  simp only[RC.gp,RC.wp] at h|-;split at h
  .rename_i t k;rw[k];exact⟨λe=>RC.lB (c:=a) (h.t e),λe=>RC.lB (c:=b) (h.f e)⟩
  .exact h.elim
 |.block id c,s,Q,h=>RC.lB (c:=c) h
 |.loop c,s,Q,h=>h.out
 |.range g ps a b,s,Q,h=>h.out
 |.exit id,_,_,h=>h
 |.ret,_,_,h=>h
def uX:AV->AV
 |.tup cs=>.tup (cs.map AV.norm)
 |x=>x.norm
theorem RV.uX{M:Hp}{σ:Nat->Nat}{n:Nat}{x:AV}{v:Value}(h:RV M σ n x v):RV M σ n (uX x) v:=by
 cases x with
 |tup cs=>
  obtain⟨vs,rfl,d,c⟩:=h.tK;refine .tup _ vs (by simpa using d) λj b v a=>?_
  simp only[zF] at b;rw[ZD]
  exact(c j b v a).norm
 |_=>exact h.norm
theorem FJ(x:AV):AM.uX x.aI=AM.uX x:=by
 cases x with
 |sl o l=>cases o<;>rfl
 |_=>rfl
theorem Sem.nrm{P:Program}{f:FuncId}{ab:List AV}{bs:List Box}{Q:AV->List Box->Prop}(h:Sem P f ab bs λr b=>Q r b\/Q (uX r) b):Sem P f ab bs Q:=by
 intro E G a0 w args lo i g d;refine(h E G a0 w args lo i g d).mono ?_;rintro e w' ⟨v,r,bs',G',rfl,q,hs⟩;rcases q with q|q
 .exact ⟨v,r,bs',G',rfl,q,hs⟩
 .have a:(⟨[(0,r)],bs',bs.length⟩:St).at (.sl 0)=some r:=rfl;have c:=hs.val _ _ a
  have:=hs.upd (q:=.sl 0) a (x:=uX r) (by
   have:=c.uX
   rwa [FJ] at this)
  exact⟨v,uX r,bs',_,rfl,q,this⟩
structure ag(s:St)(rs:List eP)(Q:AV->List Box->Prop):Prop where
 out:∃s',aD s s'/\s8 s' rs λr b=>Q r b\/Q (uX r) b
theorem xD{s:St}{rs:List eP}{Q Q':AV->List Box->Prop}(d:∀r b,Q r b->Q' r b)(h:s8 s rs Q):s8 s rs Q':=by
 have f:∀{r:eP} {K K':AV->Prop},(∀x,K x->K' x)->ED s r K->ED s r K':=λ{r} {K K'} hk h=>by
  cases r with
  |slot t=>exact hk _ h
  |cell t agg n=>
   simp only[ED,bV] at h|-;split at h
   .split at h
    .obtain ⟨i,g⟩:=af.1 h;exact af.2 ⟨i,hk _ g⟩
    .split at h
     .exact hk _ h
     .exact h
   .exact h
 have e:∀{rs:List eP} {K K':List AV->Prop},(∀x,K x->K' x)->Cd s rs K->Cd s rs K':=λ{rs}=>by
  induction rs with
  |nil=>exact λhk h=>hk _ h
  |cons r rs ih=>exact λhk h=>f (λx a=>ih (λxs c=>hk _ c) a) h
 unfold s8 at h|-;split at h
 .exact d _ _ h
 .exact f (λx a=>d _ _ a) h
 .exact e (λx a=>d _ _ a) h
theorem ag.nrm{s:St}{rs:List eP}{Q:AV->List Box->Prop}(h:s8 s rs λr b=>fv (uX r) λx=>Q x b):ag s rs Q:=⟨s,aD.refl s,xD (λr b q=>.inr (by rwa [Dh] at q)) h⟩
theorem ag.of{s:St}{rs:List eP}{Q:AV->List Box->Prop}(h:Lp s rs Q):ag s rs Q:=by
 obtain⟨a,d,c⟩:=h.out;exact⟨a,d,xD (λr b q=>.inl q) c⟩
theorem ag.keep{s:St}{rs:List eP}{Q:AV->List Box->Prop}(a:List Nat)(h:ag (s.keep a) rs Q):ag s rs Q:=by
 obtain⟨b,d,c⟩:=h.out;exact⟨b,(aD.keep s a).trans d,c⟩
theorem ag.cut{s:St}{rs:List eP}{Q:AV->List Box->Prop}(n:Nat)(a:s.lo<=n)(c:n<=s.bs.length)(g:fO n s.env=true)(f:aj n (s.bs.take n)=true)(h:ag ⟨s.env,s.bs.take n,s.lo⟩ rs Q):ag s rs Q:=by
 obtain⟨b,e,d⟩:=h.out;exact⟨b,(aD.cut s n a c g f).trans e,d⟩
def OG(rs:List eP)(Q:AV->List Box->Prop):AX->St->Prop
 |.normal,s=>ag s rs Q
 |.ret,s=>ag s rs Q
 |_,_=>False
theorem Np{P:Program}{fb:Bool}{c:RC}{ab:List AV}{bs:List Box}{rs:List eP}{Q:AV->List Box->Prop}(h:(⟨params 0 ab,bs,bs.length⟩:St).fo fb λs=>c.gp P fb s (OG rs Q)):c.wp P ⟨params 0 ab,bs,bs.length⟩ λx s=>∃d,aD s d/\OF rs (λr b=>Q r b\/Q (uX r) b) x d:=by
 rw[St.dj] at h;refine RC.wp_mono (λx s a=>?_) (RC.lB h)
 cases x with
 |normal=>exact a.out
 |ret=>exact a.out
 |exit id=>exact a.elim
inductive WkV:AV->AV->Prop
 |eq {x y:AV} (h:x=y):WkV x y
 |nZ {z:Nat} {l m:List AV} (h:Szs z l) (e:l=m):WkV (.sl .full l) (.sl (.own z) m)
 |norm (x:AV):WkV x x.norm
theorem aD.ext{s t:St}(h:∀k,au t.env k=au s.env k)(hb:t.bs=s.bs)(f:t.lo=s.lo):aD s t:=λE G a w hs=>by
 obtain⟨e,bs,lo⟩:=s;obtain⟨g,bs',d⟩:=t;simp only at h hb f;subst hb f
 have c:∀p,(⟨g,bs',d⟩:St).at p=(⟨e,bs',d⟩:St).at p:=λp=>by
  cases p with
  |sl t=>exact h t
  |bx b j=>rfl
 exact⟨G,hs.fr,hs.ok,hs.nt,λp x hp=>hs.val p x (by rw[<-c];exact hp),λb j x hp=>hs.one b j x (by rw[<-c];exact hp),hs.box,hs.bmem,hs.inj,λp z l hp=>hs.own p z l (by rw[<-c];exact hp),hs.clinj,hs.clbox,hs.cllt,hs.lo,hs.len,hs.sig,hs.sp⟩
theorem aD.slot{s:St}{k:Nat}{x y:AV}(a:au s.env k=some x)(h:WkV x y):aD s (s.put (some k) y):=by
 cases h with
 |eq h=>
  subst h;refine aD.ext (λj=>?_) rfl rfl;simp only[St.put,fi];split
  .rename_i e;rw[e,a]
  .rfl
 |nZ b e=>subst e;exact aD.nZ s k _ _ a b.out
 |norm=>exact aD.norm s k x a
theorem je:∀(pre r:List (Nat×AV)) (k:Nat),au (pre++r) k=match au pre k with|some x=>some x|none=>au r k
 |[],r,k=>rfl
 |(t,x)::pre,r,k=>by
  simp only[ze,au]
  cases Nat.beq t k with
  |true=>rfl
  |false=>exact je pre r k
theorem aD.at_{pre r:List (Nat×AV)}{bs:List Box}{lo k:Nat}{x y:AV}(h:WkV x y):aD ⟨pre++(k,x)::r,bs,lo⟩ ⟨pre++(k,y)::r,bs,lo⟩:=by
 cases hp:au pre k with
 |some z=>
  refine aD.ext (λj=>?_) rfl rfl;simp only[je,au]
  by_cases e:k=j
  .subst e;rw[hp]
  .rw [cw e]
 |none=>
  refine(aD.slot (s:=⟨pre++(k,x)::r,bs,lo⟩) (k:=k) (x:=x) (by simp only[je,hp,au,Nat.beq_refl]) h).trans (aD.ext (λj=>?_) rfl rfl)
  simp only[St.put,fi,je,au]
  by_cases e:k=j
  .subst e;rw[hp];simp
  .rw [if_neg (λh=>e h.symm),cw e]
theorem aD.MY{pre r:List (Nat×AV)}{bs:List Box}{lo k:Nat}{x:AV}(hp:∀t∈pre.map (·.1),t≠k)(hr:∀t∈r.map (·.1),t≠k):aD ⟨pre++(k,x)::r,bs,lo⟩ ⟨pre++r,bs,lo⟩:=by
 have i:∀l:List (Nat×AV),(∀t∈l.map (·.1),t≠k)->au l k=none:=λl=>by
  induction l with
  |nil=>exact λ_=>rfl
  |cons q l ih=>
   obtain⟨t,y⟩:=q;intro h;simp only[au];rw[cw (h t (by simp))]
   exact ih λt g=>h t (by simp only[zP,zI];exact .inr g)
 refine(aD.keep _ ((pre++r).map (·.1))).trans (aD.ext (λj=>?_) rfl rfl)
 have hk:∀(f:Nat->Bool) (e:List (Nat×AV)),au (eF f e) j=if f j then au e j else none:=λf e=>by
  induction e with
  |nil=>simp[eF,au]
  |cons q e ih=>
   obtain⟨t,y⟩:=q;simp only[eF]
   cases d:f t with
   |true=>
    simp only[au]
    cases hb:Nat.beq t j with
    |true=>have:=zO hb;subst this;simp[d]
    |false=>simp only;exact ih
   |false=>
    simp only[au]
    cases hb:Nat.beq t j with
    |true=>have:=zO hb;subst this;rw[ih];simp[d]
    |false=>simp only;exact ih
 simp only[St.keep,hk]
 have b:∀(l:List Nat),mem j l=true↔j∈l:=λl=>by
  induction l with
  |nil=>simp[mem]
  |cons y l ih=>
   simp only[mem]
   cases hb:Nat.beq y j with
   |true=>have:=zO hb;subst this;simp
   |false=>
    simp only[ih,zI];exact⟨.inr,λh=>h.elim (λe=>by subst e;simp at hb) id⟩
 have c:∀(l:List (Nat×AV)),j∉l.map (·.1)->au l j=none:=λl=>by
  induction l with
  |nil=>exact λ_=>rfl
  |cons q l ih=>
   obtain⟨t,y⟩:=q;intro h;simp only[zP,zI,not_or] at h;simp only[au];rw[cw (λe=>h.1 e.symm)];exact ih h.2
 by_cases a:j∈(pre++r).map (·.1)
 .rw [if_pos ((b _).2 a)];simp only[je,au]
  by_cases e:k=j
  .subst e;rw[zu,zY] at a;rcases a with a|a
   .exact absurd rfl (hp _ a)
   .exact absurd rfl (hr _ a)
  .rw [cw e]
 .rw [if_neg (λh=>a ((b _).1 h)),c _ a]
structure WkN(x y:AV)(K:Prop):Prop where
 w:WkV x y
 k:K
theorem WkN.eq{x y:AV}{K:Prop}(h:x=y)(k:K):WkN x y K:=⟨.eq h,k⟩
theorem WkN.int{i:IntKind}{x y:Int}{K:Prop}(h:x=y)(k:K):WkN (.int i x) (.int i y) K:=⟨.eq (by rw[h]),k⟩
theorem WkN.bool{x y:Bool}{K:Prop}(h:x=y)(k:K):WkN (.bool x) (.bool y) K:=⟨.eq (by rw[h]),k⟩
theorem WkN.sl{o:Cap}{l m:List AV}{K:Prop}(h:l=m)(k:K):WkN (.sl o l) (.sl o m) K:=⟨.eq (by rw[h]),k⟩
theorem WkN.norm{x y:AV}{K:Prop}(h:x.norm=y)(k:K):WkN x y K:=⟨h▸.norm x,k⟩
theorem WkN.nZ{z:Nat}{l m:List AV}{K:Prop}(h:Szs z l)(e:l=m)(k:K):WkN (.sl .full l) (.sl (.own z) m) K:=⟨.nZ h e,k⟩
def uY(k:Nat):List (Nat×AV)->Bool
 |[]=>true
 |(t,_)::r=>match Nat.beq t k with
  |true=>false
  |false=>uY k r
def wkE:Nat->List (Nat×AV)->List (Nat×AV)->List (Nat×AV)->Prop
 |0,_,_,_=>False
 |_+1,_,[],[]=>True
 |n+1,pre,(k,x)::r,(k',y)::r'=>match Nat.beq k k' with
  |true=>WkN x y (wkE n (pre++[(k',y)]) r r')
  |false=>req (uY k pre&&uY k r) (wkE n pre r ((k',y)::r'))
 |n+1,pre,(k,_)::r,[]=>req (uY k pre&&uY k r) (wkE n pre r [])
 |_+1,_,[],_::_=>False
theorem lv{k:Nat}:∀{l:List (Nat×AV)},uY k l=true->∀t∈l.map (·.1),t≠k
 |[],_,_,h=>by cases h
 |(u,_)::r,h,t,a=>by
  simp only[uY] at h;split at h
  .cases h
  .rename_i hb;simp only[zP,zI] at a;rcases a with rfl|a
   .intro e;subst e;simp at hb
   .exact lv h t a
theorem mY{bs:List Box}{lo:Nat}:∀{n:Nat} {pre e c:List (Nat×AV)},wkE n pre e c->aD ⟨pre++e,bs,lo⟩ ⟨pre++c,bs,lo⟩
 |0,_,_,_,h=>h.elim
 |_+1,_,[],[],_=>aD.refl _
 |n+1,pre,(k,x)::r,(k',y)::r',h=>by
  simp only[wkE] at h;split at h
  .rename_i hb;have:=zO hb;subst this;have:=mY (bs:=bs) (lo:=lo) h.k;simp only[zg,List.singleton_append] at this;exact(aD.at_ h.w).trans this
  .obtain ⟨a,b⟩:=af.1 h;simp only[zD] at a
   exact(aD.MY (lv a.1) (lv a.2)).trans (mY b)
 |n+1,pre,(k,x)::r,[],h=>by
  simp only[wkE] at h;obtain⟨a,b⟩:=af.1 h;simp only[zD] at a
  exact(aD.MY (lv a.1) (lv a.2)).trans (mY b)
 |_+1,_,[],_::_,h=>h.elim
structure BxN(p K:Prop):Prop where
 p:p
 k:K
def eqC:List AV->List AV->Prop->Prop
 |[],[],K=>K
 |x::xs,y::ys,K=>BxN (x=y) (eqC xs ys K)
 |_,_,_=>False
theorem GY:∀{xs ys:List AV} {K:Prop},eqC xs ys K->xs=ys/\K
 |[],[],_,h=>⟨rfl,h⟩
 |x::xs,y::ys,K,h=>by
  obtain⟨b,a⟩:=GY h.k
  exact⟨by rw[h.p,b],a⟩
 |[],_::_,_,h=>h.elim
 |_::_,[],_,h=>h.elim
def eqB:List Box->List Box->Prop->Prop
 |[],[],K=>K
 |.cells cs::r,.cells ds::r',K=>eqC cs ds (eqB r r' K)
 |.dead::r,.dead::r',K=>eqB r r' K
 |.loop x::r,.loop y::r',K=>BxN (x=y) (eqB r r' K)
 |.row x::r,.row y::r',K=>BxN (x=y) (eqB r r' K)
 |.mp x::r,.mp y::r',K=>BxN (x=y) (eqB r r' K)
 |.mq x c::r,.mq y d::r',K=>BxN (x=y) (BxN (c=d) (eqB r r' K))
 |.tab x::r,.tab y::r',K=>BxN (x=y) (eqB r r' K)
 |_,_,_=>False
theorem hY:∀{xs ys:List Box} {K:Prop},eqB xs ys K->xs=ys/\K
 |[],[],_,h=>⟨rfl,h⟩
 |.cells cs::r,.cells ds::r',K,h=>by
  obtain⟨f,e⟩:=GY h;obtain⟨b,a⟩:=hY e
  exact⟨by rw[f,b],a⟩
 |.dead::r,.dead::r',K,h=>by
  obtain⟨b,a⟩:=hY (xs:=r) (ys:=r') h
  exact⟨by rw[b],a⟩
 |.loop x::r,.loop y::r',K,h=>by
  obtain⟨b,a⟩:=hY h.k
  exact⟨by rw[h.p,b],a⟩
 |.row x::r,.row y::r',K,h=>by
  obtain⟨b,a⟩:=hY h.k
  exact⟨by rw[h.p,b],a⟩
 |.mp x::r,.mp y::r',K,h=>by
  obtain⟨b,a⟩:=hY h.k
  exact⟨by rw[h.p,b],a⟩
 |.mq x c::r,.mq y d::r',K,h=>by
  obtain⟨b,a⟩:=hY h.k.k
  exact⟨by rw[h.p,h.k.p,b],a⟩
 |.tab x::r,.tab y::r',K,h=>by
  obtain⟨b,a⟩:=hY h.k
  exact⟨by rw[h.p,b],a⟩
 |.cells _::_,.tab _::_,_,h=>h.elim
 |.tab _::_,.cells _::_,_,h=>h.elim
 |.dead::_,.tab _::_,_,h=>h.elim
 |.tab _::_,.dead::_,_,h=>h.elim
 |.loop _::_,.tab _::_,_,h=>h.elim
 |.tab _::_,.loop _::_,_,h=>h.elim
 |.row _::_,.tab _::_,_,h=>h.elim
 |.tab _::_,.row _::_,_,h=>h.elim
 |.mp _::_,.tab _::_,_,h=>h.elim
 |.tab _::_,.mp _::_,_,h=>h.elim
 |.mq _ _::_,.tab _::_,_,h=>h.elim
 |.tab _::_,.mq _ _::_,_,h=>h.elim
 |.tab _::_,[],_,h=>h.elim
 |[],_::_,_,h=>h.elim
 |.cells _::_,[],_,h=>h.elim
 |.cells _::_,.mq _ _::_,_,h=>h.elim
 |.mq _ _::_,.cells _::_,_,h=>h.elim
 |.cells _::_,.dead::_,_,h=>h.elim
 |.cells _::_,.loop _::_,_,h=>h.elim
 |.cells _::_,.row _::_,_,h=>h.elim
 |.cells _::_,.mp _::_,_,h=>h.elim
 |.dead::_,[],_,h=>h.elim
 |.dead::_,.mq _ _::_,_,h=>h.elim
 |.mq _ _::_,.dead::_,_,h=>h.elim
 |.dead::_,.cells _::_,_,h=>h.elim
 |.dead::_,.loop _::_,_,h=>h.elim
 |.dead::_,.row _::_,_,h=>h.elim
 |.dead::_,.mp _::_,_,h=>h.elim
 |.loop _::_,[],_,h=>h.elim
 |.loop _::_,.mq _ _::_,_,h=>h.elim
 |.mq _ _::_,.loop _::_,_,h=>h.elim
 |.loop _::_,.cells _::_,_,h=>h.elim
 |.loop _::_,.dead::_,_,h=>h.elim
 |.loop _::_,.row _::_,_,h=>h.elim
 |.loop _::_,.mp _::_,_,h=>h.elim
 |.row _::_,[],_,h=>h.elim
 |.row _::_,.mq _ _::_,_,h=>h.elim
 |.mq _ _::_,.row _::_,_,h=>h.elim
 |.row _::_,.cells _::_,_,h=>h.elim
 |.row _::_,.dead::_,_,h=>h.elim
 |.row _::_,.loop _::_,_,h=>h.elim
 |.row _::_,.mp _::_,_,h=>h.elim
 |.mp _::_,[],_,h=>h.elim
 |.mq _ _::_,[],_,h=>h.elim
 |.mp _::_,.mq _ _::_,_,h=>h.elim
 |.mq _ _::_,.mp _::_,_,h=>h.elim
 |.mp _::_,.cells _::_,_,h=>h.elim
 |.mp _::_,.dead::_,_,h=>h.elim
 |.mp _::_,.loop _::_,_,h=>h.elim
 |.mp _::_,.row _::_,_,h=>h.elim
theorem al.at_{s t:St}(h:FF true t.env λe=>fBs t.bs λb=>wkE 100 [] s.env e/\eqB s.bs b True)(a:s.lo=t.lo):al s t:=by
 rw[qR,jd] at h;obtain⟨e,bs,lo⟩:=s;obtain⟨f,bs',c⟩:=t;simp only at h a;subst a;obtain⟨d,_⟩:=hY h.2;subst d;exact⟨mY h.1⟩
theorem al.atC(n:Nat){s t:St}(h:FF true t.env λe=>fBs t.bs λb=>wkE 100 [] (s.keep (e.map (·.1))).env e/\eqB (s.bs.take n) b True)(d:s.lo=t.lo)(a:Nat.ble s.lo n=true)(c:Nat.ble n s.bs.length=true)(g:fO n (s.keep (t.env.map (·.1))).env=true)(f:aj n (s.bs.take n)=true):al s t:=by
 rw[qR,jd] at h;refine⟨(aD.keep s (t.env.map (·.1))).trans ((aD.cut (s.keep (t.env.map (·.1))) n (zr a) (zr c) g f).trans ?_)⟩;refine(al.at_ (s:=⟨(s.keep (t.env.map (·.1))).env,s.bs.take n,s.lo⟩) ?_ d).out;rw[qR,jd];exact h
theorem al.atS{s t:St}(h:wkE 100 [] s.env t.env)(hb:s.bs=t.bs)(a:s.lo=t.lo):al s t:=by
 obtain⟨e,bs,lo⟩:=s;obtain⟨c,bs',b⟩:=t;simp only at h hb a;subst hb a;exact⟨mY h⟩
def St.bD(s:St):List (Nat×AV)->St
 |[]=>s
 |(t,x)::r=>(s.put (some t) x).bD r
theorem al.qU{s t:St}{own:List Box}{x:Box}(hb:s.bs=own++[x])(a:s.lo<=own.length)(c:fO own.length s.env=true)(b:aj own.length own=true)(h:al ⟨s.env,own,s.lo⟩ t):al s t:=
 ⟨(aD.cut s own.length a (by rw[hb];simp) c (by rw[hb];simpa using b)).trans (by
  have:s.bs.take own.length=own:=by rw[hb];simp
  rw[this];exact h.out)⟩
theorem ag.qU{s:St}{rs:List eP}{Q:AV->List Box->Prop}{own:List Box}{x:Box}(hb:s.bs=own++[x])(a:s.lo<=own.length)(c:fO own.length s.env=true)(b:aj own.length own=true)(h:ag ⟨s.env,own,s.lo⟩ rs Q):ag s rs Q:=by
 refine ag.cut own.length a (by rw[hb];simp) c (by rw[hb];simpa using b) ?_
 have:s.bs.take own.length=own:=by rw[hb];simp
 rw[this];exact h
theorem jl.byW{P:Program}{g:Opd}{ps:List Nat}{a b:RC}{s:St}{Q:AX->St->Prop}(d:St){gf:FuncId}{lb:List AV}{xs:List (List AV)}(hw:al s d)(G:d.ev g=.fn (.func gf) [] lb)(u:dQ P gf=true)(F:yw P gf (lb.map AV.norm) xs)(hlen:∀y∈xs,y.length=ps.length)
  (I:List (List AV)->List Box->Prop) (Ix:AX->List Box->Prop) (w:∀pre own,I pre own->aj own.length own=true) (l:∀e own,Ix e own->aj own.length own=true) (C:∀y∈xs,y.all (λv=>v.lt 0)=true) (M:I [] d.bs) (o:∀pre own,I pre own->own.length=d.bs.length) (k:∀e own,Ix e own->own.length=d.bs.length)
  (round:∀x pre y rest own,pre++y::rest=xs->I pre own->a.wp P ⟨j5 (eH d.env) ps y,own++[.loop x],own.length+1⟩ λe s1=>match e with|.normal=>ah s1.bs d.bs.length=some x/\b.wp P ⟨s1.env,s1.bs.set d.bs.length .dead,s1.lo⟩ λe A=>Om A e (λe own=>match e with|.normal=>I (pre++[y]) own|e=>Ix e own)|_=>False)
  (done:∀own,I xs own->(⟨d.env,own++[.dead],d.lo⟩:St).fo true λp=>Q .normal p) (stop:∀e own,Ix e own->(⟨d.env,own++[.dead],d.lo⟩:St).fo true λp=>Q e p):
  jl P g ps a b s Q:=by
 refine⟨d,hw.out,?_⟩;rw[G];refine⟨u,λx D=>?_⟩;have j:∀own (y:LB),own.length=d.bs.length->ah (own++[.loop y]) d.bs.length=some y:=λown y h=>by rw[dx,if_pos h.symm]
 have H:=F.use d.bs.length (d.bs++[Box.loop x]) (λpre bs=>∃own,I pre own/\bs=own++[Box.loop x])
  (λbs=>∃e own,Ix e own/\((e=.ret/\bs=own++[Box.loop (x.done .ret)])\/∃id,e=.exit id/\bs=own++[Box.loop (x.done (.exit id))])) (by simp) ?_ ?_ (λy q v E=>J6 (zJ _) (zS.1 (C y q) v E)) ?_ ⟨_,M,rfl⟩
 refine⟨_,H,?_⟩
 rotate_left 3
 .rintro pre y rest bs n ⟨own,c,rfl⟩;have f:=o pre own c;refine D y _ _ (j own x f) (hlen y (by rw[<-n];simp)) ?_
  have hr:=round x pre y rest own n c;unfold JI;simp only[zC,zX,ZP,ZI];refine RC.wp_mono (λe s1 z=>?_) hr
  cases e with
  |ret=>exact z
  |exit id=>exact z
  |normal=>
   obtain⟨L,K⟩:=z;refine⟨L,?_⟩;refine RC.wp_mono (λe A J=>?_) K;obtain⟨B,i,t,m,hJ⟩:=J.out;refine⟨B,t,?_⟩
   cases e with
   |normal=>
    simp only[um,m]
    exact .inl ⟨trivial,i,hJ,kL (o _ _ hJ) _ _⟩
   |ret=>
    simp only[um,m]
    exact .inr ⟨trivial,.ret,i,hJ,.inl ⟨rfl,kL (k _ _ hJ) _ _⟩⟩
   |exit id=>
    simp only[um,m];exact .inr ⟨trivial,.exit id,i,hJ,.inr ⟨id,rfl,kL (k _ _ hJ) _ _⟩⟩
 .rintro r bs' (⟨own,c,rfl⟩|⟨e,own,c,hb⟩)
  .have f:=o _ own c;refine .inl ⟨j own x f,?_⟩;rw[kL f];have:=done own c
   rwa [St.dj] at this
  .have f:=k _ own c;have hs:=stop e own c;rw[St.dj] at hs;rcases hb with ⟨rfl,rfl⟩|⟨id,rfl,rfl⟩
   .exact .inr (.inl ⟨j own _ f,by rw[kL f];exact hs⟩)
   .exact .inr (.inr ⟨id,j own _ f,by rw[kL f];exact hs⟩)
 .rintro pre bs' ⟨own,c,rfl⟩;have f:=o pre own c;exact⟨by simp[f],by rw[zC,zU,<-f];exact mv (w pre own c) x⟩
 .rintro bs' ⟨e,own,c,hb⟩;have f:=k e own c;rcases hb with ⟨_,rfl⟩|⟨id,_,rfl⟩
  .exact ⟨by simp[f],by rw[zC,zU,<-f];exact mv (l e own c) _⟩
  .exact ⟨by simp[f],by rw[zC,zU,<-f];exact mv (l e own c) _⟩
structure IV(bs:List Box)(n:Nat)(x:LB)(K:Prop):Prop where
 h:ah bs n=some x
 k:K
def asgP(x:LB)(n:Nat)(K:St->Prop):AX->St->Prop
 |.normal,s=>IV s.bs n x ((⟨s.env,s.bs.set n .dead,s.lo⟩:St).fo true K)
 |_,_=>False
structure sB(s:St)(own:List Box):Prop where
 out:∃lo,aD s ⟨[],own++[.dead],lo⟩
theorem sB.by{s:St}{own:List Box}(h:eqB (s.bs.take (own.length+1)) (own++[.dead]) True)(a:Nat.ble s.lo (own.length+1)=true)(c:Nat.ble (own.length+1) s.bs.length=true)(d:aj (own.length+1) (own++[.dead])=true):sB s own:=by
 obtain⟨b,_⟩:=hY h;refine⟨s.lo,?_⟩
 have hk:(s.keep [])=⟨[],s.bs,s.lo⟩:=by
  have:∀e:List (Nat×AV),eF (λk=>mem k []) e=[]:=λe=>by
   induction e with
   |nil=>rfl
   |cons p e ih=>obtain⟨k,v⟩:=p;simpa[eF,mem] using ih
  simp only[St.keep,this]
 refine(aD.keep s []).trans ?_;rw[hk];have:=aD.cut ⟨[],s.bs,s.lo⟩ (own.length+1) (zr a) (zr c) rfl (by rw[b];exact d)
 rw[b] at this;exact this
def Nq(own:List Box)(Ix:AX->St->Prop):AX->St->Prop
 |.normal,s=>sB s own
 |e,s=>Ix e s
theorem jl.each{α:Type}{P:Program}{g:Opd}{ps:List Nat}{a b:RC}{s:St}{Q:AX->St->Prop}(enc:α->List AV)(l:List α)(d:St)(bx:List α->List Box){gf:FuncId}{lb:List AV}(B:yw P gf (lb.map AV.norm) (l.map enc))(o:dQ P gf=true)(hw:al s d)(C:d.ev g=.fn (.func gf) [] lb)
  (hlen:∀y,(enc y).length=ps.length) (A:∀y,(enc y).all (λv=>v.lt 0)=true) (E:d.bs=bx []) (hb:∀pre,(bx pre).length=d.bs.length/\aj d.bs.length (bx pre)=true)
  (round:∀x pre y rest,pre++y::rest=l->(⟨j5 (eH d.env) ps (enc y),bx pre++[.loop x],d.bs.length+1⟩:St).fo true λs1=>a.gp P true s1 (asgP x d.bs.length λs2=>b.gp P true s2 (Nq (bx (pre++[y])) λ_ _=>False)))
  (done:(⟨d.env,bx l++[.dead],d.lo⟩:St).fo true λw=>Q .normal w):jl P g ps a b s Q:=by
 refine jl.byW d hw C o B (λy f=>?_) (λpre own=>∃p q,p++q=l/\pre=p.map enc/\own=bx p) (λ_ _=>False) (λpre own h=>?_) (λ_ _ h=>h.elim) (λy f=>?_) ⟨[],l,rfl,rfl,E⟩ (λpre own h=>?_) (λ_ _ h=>h.elim) ?_ (λown h=>?_) (λ_ _ h=>h.elim)
 .obtain ⟨z,_,rfl⟩:=zk.1 f;exact hlen z
 .obtain ⟨p,q,_,_,rfl⟩:=h;rw[(hb p).1];exact(hb p).2
 .obtain ⟨z,_,rfl⟩:=zk.1 f;exact A z
 .obtain ⟨p,q,_,_,rfl⟩:=h;exact(hb p).1
 .rintro x pre y rest own i ⟨p,q,c,rfl,rfl⟩
  have n:q≠[]:=λe=>by
   subst e;rw[zy] at c;subst c;have:=congrArg List.length i;simp at this
  obtain⟨z,t,rfl⟩:=List.exists_cons_of_ne_nil n
  have m:y=enc z:=by
   rw[<-c,zu,zP] at i;have:=List.append_cancel_left i;exact(List.cons.inj this).1
  subst m;have hr:=round x p z t c;rw[St.dj] at hr;rw[(hb p).1];refine RC.wp_mono (λe s1 j=>?_) (RC.lB hr)
  cases e with
  |normal=>
   refine⟨j.h,?_⟩;have u:=j.k;rw[St.dj] at u;refine RC.wp_mono (λe F r=>?_) (RC.lB u)
   cases e with
   |normal=>
    obtain⟨lo,D⟩:=r.out
    exact⟨_,_,D,rfl,p++[z],t,by simpa using c,by simp,rfl⟩
   |ret=>exact r.elim
   |exit id=>exact r.elim
  |ret=>exact j.elim
  |exit id=>exact j.elim
 .obtain ⟨p,q,c,he,rfl⟩:=h
  have n:q=[]:=by
   have:=congrArg List.length he;rw[<-c] at this;simpa using this
  subst n;rw[zy] at c;subst c;exact done
theorem ax.by{P:Program}{fb:Bool}{c:RC}{s:St}{Q:AX->St->Prop}{α:Type}(up:St->α->St)(inv:α->Prop)(d:α->Nat)(a0:α)(k:inv a0)(hw:al s (up s a0))
  (round:∀a,inv a->(up s a).fo fb λs1=>c.gp P fb s1 (oS (λf=>∃b,(inv b/\d b<d a)/\al f (up s b)) Q)):ax P c s Q:=by
 refine⟨λm s1=>∃a,m=d a/\inv a/\s1=up s a,d a0,up s a0,hw.out,⟨a0,rfl,k,rfl⟩,?_⟩;rintro m s1 ⟨a,rfl,g,rfl⟩;have:=round a g;rw[St.dj] at this;refine RC.wp_mono (λx f e=>?_) (RC.lB this)
 cases x with
 |normal=>
  obtain⟨b,⟨j,i⟩,h⟩:=e
  exact⟨d b,up s b,i,h.out,b,rfl,j,rfl⟩
 |exit id=>exact e
 |ret=>exact e
theorem ax.count{P:Program}{fb:Bool}{c:RC}{s:St}{Q:AX->St->Prop}(n:Nat)(up:St->Nat->St)(inv:Nat->Prop)(f:inv 0)(hw:al s (up s 0))
  (round:∀j,j<n->inv j->(up s j).fo fb λs1=>c.gp P fb s1 (oS (λb=>inv (j+1)/\al b (up s (j+1))) Q))
  (done:inv n->(up s n).fo fb λs1=>c.gp P fb s1 (oS (λ_=>False) Q)):ax P c s Q:=by
 refine⟨λm s1=>∃j,m=n-j/\(j<=n/\inv j)/\s1=up s j,n,up s 0,hw.out,⟨0,by omega,⟨zJ _,f⟩,rfl⟩,?_⟩
 rintro m s1 ⟨j,rfl,⟨g,d⟩,rfl⟩;rcases zt j n with h|h
 .have:=round j h d;rw[St.dj] at this;refine RC.wp_mono (λx b a=>?_) (RC.lB this)
  cases x with
  |normal=>exact⟨n-(j+1),up s (j+1),by omega,a.2.out,j+1,rfl,⟨by omega,a.1⟩,rfl⟩
  |exit id=>exact a
  |ret=>exact a
 .have e:j=n:=by omega
  subst e;have:=done d;rw[St.dj] at this;refine RC.wp_mono (λx b a=>?_) (RC.lB this)
  cases x with
  |normal=>exact a.elim
  |exit id=>exact a
  |ret=>exact a
end Go.AM
