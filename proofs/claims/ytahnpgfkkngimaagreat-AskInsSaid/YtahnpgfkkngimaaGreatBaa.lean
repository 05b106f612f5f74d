/-
  Texts of this aQ joined (wip/gen/bundle.py),those declarations only that are needed:Base Term Data AmV. By an AI agent.
-/
import Derived.WalkKit
import Derived.WalkSpells
import Derived.WalkLawsBesides
import Derived.Lib.Hide
import Derived.RangeFuncMany
set_option linter.unusedSimpArgs false
set_option linter.unusedVariables false
abbrev ZA:=@List.getElem?_eq_getElem
abbrev ZB:=@List.getElem?_eq_some_iff
abbrev ZC:=@List.length_append
abbrev ZD:=@Bool.and_eq_true
abbrev ZE:=@List.mem_of_getElem?
abbrev ZF:=@List.length_map
abbrev ZG:=@Nat.le_refl
abbrev ZH:=@List.drop_eq_getElem_cons
abbrev ZI:=@List.mem_cons
abbrev ZJ:=@Nat.zero_le
abbrev ZK:=@List.getElem?_append_left
abbrev ZL:=@List.eq_nil_of_length_eq_zero
abbrev ZM:=@Option.map_some
abbrev ZN:=@Option.some.injEq
abbrev ZO:=@Nat.eq_of_beq_eq_true
abbrev ZP:=@List.map_cons
abbrev ZQ:=@List.mem_cons_of_mem
abbrev ZR:=@List.getElem?_eq_none
abbrev ZS:=@List.all_eq_true
abbrev ZT:=@Array.getD_eq_getD_getElem?
abbrev ZU:=@List.length_singleton
abbrev ZV:=@List.mem_cons_self
abbrev ZW:=@Array.getElem?_setIfInBounds_ne
abbrev ZX:=@List.length_cons
abbrev ZY:=@List.mem_append
abbrev ZZ:=@List.getElem?_append_right
abbrev Za:=@Bool.true_and
abbrev Zb:=@Bool.not_eq_true'
abbrev Zc:=@List.getElem_mem
abbrev Zd:=@List.mem_range
abbrev Ze:=@List.cons_append
abbrev Zf:=@List.length_replicate
abbrev Zg:=@List.append_assoc
abbrev Zh:=@Array.getElem?_eq_some_iff
abbrev Zi:=@Array.getElem?_eq_getElem
abbrev Zj:=@List.drop_length
abbrev Zk:=@List.mem_map
abbrev Zl:=@List.take_of_length_le
abbrev Zm:=@List.length_set
abbrev Zn:=@List.length_take
abbrev Zo:=@List.mem_filter
abbrev Zp:=@List.mem_singleton
abbrev Zq:=@List.getElem?_set
abbrev Zr:=@Nat.le_of_ble_eq_true
abbrev Zs:=@Nat.lt_or_ge
abbrev Zt:=@List.map_append
abbrev Zu:=@Bool.false_and
abbrev Zv:=@List.append_nil
abbrev Zw:=@List.take_length
abbrev Zx:=@List.pairwise_cons
abbrev Zy:=@List.mem_append_left
abbrev Zz:=@List.take_add_one
abbrev YA:=@List.getElem_map
abbrev YB:=@Nat.mul_le_mul_right
abbrev YD:=@List.getElem?_map
abbrev YE:=@Option.bind_some
abbrev YF:=@List.getElem_append_left
abbrev YG:=@Nat.zero_add
abbrev YH:=@Array.length_toList
abbrev YI:=@List.getElem?_eq_none_iff
abbrev YJ:=@List.take_zero
abbrev YK:=@Nat.add_mul
abbrev YL:=@Bool.or_eq_true
abbrev YM:=@Nat.le_trans
abbrev YN:=@Array.all_eq_true_iff_forall_mem
abbrev YO:=@List.length_nil
abbrev YP:=@List.getElem_cons_zero
abbrev YQ:=@List.getElem?_of_mem
abbrev YR:=@Option.getD_some
abbrev YS:=@List.getElem?_zip_eq_some
abbrev YT:=@Nat.lt_of_lt_of_le
abbrev YU:=@List.mem_append_right
abbrev YV:=@List.mem_map_of_mem
abbrev YW:=@List.length_eq_zero_iff
abbrev YX:=@List.getElem_append_right
abbrev YY:=@Bool.false_ne_true
abbrev YZ:=@Bool.false_eq_true
abbrev Ya:=@List.mem_replicate
abbrev Yb:=@List.mem_iff_getElem
abbrev Yc:=@List.getElem?_take
abbrev Yd:=@List.map_nil
abbrev Ye:=@List.nodup_cons
abbrev Yf:=@List.length_drop
abbrev Yg:=@List.getElem?_set_ne
abbrev Yh:=@List.countP_cons_of_pos
abbrev Yi:=@Nat.add_zero
abbrev Yj:=@List.getElem_cons_succ
abbrev Yk:=@List.drop_of_length_le
abbrev Yl:=@Array.getElem?_eq_none
abbrev Ym:=@List.nil_append
abbrev Yn:=@Nat.not_lt_zero
abbrev Yo:=@Nat.add_assoc
abbrev Yp:=@List.all_cons
abbrev Yq:=@List.getElem?_cons_zero
abbrev Yr:=@List.filter_congr
abbrev Ys:=@Int.toNat_natCast
abbrev Yt:=@List.ext_getElem?
abbrev Yu:=@List.length_range
abbrev Yv:=@List.getElem_take
abbrev Yw:=@List.countP_cons_of_neg
abbrev Yx:=@List.getElem_of_mem
abbrev Yy:=@Nat.div_lt_iff_lt_mul
abbrev Yz:=@List.countP_le_length
abbrev XA:=@List.filter_cons_of_neg
abbrev XB:=@Nat.lt_succ_self
abbrev XC:=@List.getElem_replicate
abbrev XD:=@Option.isSome_none
abbrev XE:=@List.all_nil
abbrev XF:=@Nat.zero_lt_one
abbrev XG:=@List.cons.injEq
abbrev XH:=@List.length_filter_le
abbrev XI:=@List.getElem_drop
abbrev XJ:=@Int.fdiv_eq_ediv_of_nonneg
abbrev XK:=@Nat.le_add_right
abbrev XL:=@Nat.sub_zero
abbrev XM:=@List.filter_eq_self
abbrev XN:=@List.take_succ_cons
abbrev XO:=@List.toList_toArray
abbrev XP:=@Array.getElem?_replicate
abbrev XQ:=@Option.isSome_iff_exists
abbrev XR:=@Nat.div_add_mod
abbrev XS:=@Nat.min_eq_left
abbrev XT:=@List.length_zip
abbrev XU:=@Option.map_none
abbrev XV:=@Option.some.inj
abbrev XW:=@List.filter_cons_of_pos
abbrev XX:=@Nat.one_mul
abbrev XY:=@Nat.sub_self
abbrev XZ:=@List.pairwise_lt_range
abbrev Xa:=@Nat.mul_comm
abbrev Xb:=@List.drop_zero
abbrev Xc:=@List.set_append_right
abbrev Xd:=@List.getElem?_toArray
abbrev Xe:=@List.range'_succ
abbrev Xf:=@Nat.mod_lt
abbrev Xg:=@List.not_mem_nil
abbrev Xh:=@Go.Result.andThen_ok
abbrev Xi:=@Go.Sem.run_bind
abbrev Xj:=@Go.Sem.run_pure
namespace Go.CK
open Go.RowKit
/-- what a string or a slice may hold; glim: what a call may build -/
def lim : Nat := 9223372036854775807
def glim : Nat := 4294967296
theorem glim_le {n : Nat} (h : n ≤ glim) : n ≤ lim := by unfold glim at h; unfold lim; omega
def bW(n:Int):Prop:=-9223372036854775808<=n/\n<=9223372036854775807
theorem bW.wf{n:Int}(h:bW n):(Lit.int .i64 n).wf=true:=WalkArith.wf_i64 h
theorem bW.K2{n:Int}(h:(Lit.int .i64 n).wf=true):bW n:=by
 simpa[Lit.wf,IntKind.min,IntKind.max,IntKind.signed,IntKind.bits,bW] using h
structure Ext(w w':World):Prop where
 bel:Below w.heap.size w w'
theorem Ext.refl(w:World):Ext w w:=⟨Below.refl _ _⟩
theorem Ext.size{w w':World}(h:Ext w w'):w.heap.size<=w'.heap.size:=h.bel.size
theorem Ext.alloc{a b:World}(h:Ext a b)(o:Obj):Ext a (b.alloc o):=⟨h.bel.alloc h.size o⟩
theorem Ext.cell{a b:World}(h:Ext a b){p:Addr}{v:Value}(hv:a.cell? p=some v):b.cell? p=some v:=by
 rw[h.bel.cell (World.block_lt_of_cell? a p hv)];exact hv
abbrev Hp:=Nat->Nat->Option Value
def Hp.le(H H':Hp):Prop:=∀b o v,H b o=some v->H' b o=some v
def Hp.of(w:World):Hp:=λb o=>w.cell? ⟨b,o,none⟩
def Hp.plus(H:Hp)(w w':World):Hp:=λb o=>if w.heap.size<=b then w'.cell? ⟨b,o,none⟩ else H b o
def Hp.row(H:Hp)(w w':World)(v:Value):Hp:=λb o=>if v.ownBlock=some b then none else H.plus w w' b o
theorem Hp.le_refl(H:Hp):H.le H:=λ_ _ _ h=>h
theorem Hp.le_trans{A B C:Hp}(h:A.le B)(k:B.le C):A.le C:=λ_ _ _ x=>k _ _ _ (h _ _ _ x)
theorem Hp.lt{H:Hp}{w:World}(h:H.le (Hp.of w)){b o:Nat}{v:Value}(hv:H b o=some v):b<w.heap.size:=World.block_lt_of_cell? w _ (h _ _ _ hv)
theorem Hp.Kc{w w':World}(h:Ext w w'):(Hp.of w).le (Hp.of w'):=λ_ _ _ x=>h.cell x
theorem Hp.ext{H:Hp}{w w':World}(hH:H.le (Hp.of w))(h:Ext w w'):H.le (Hp.of w'):=Hp.le_trans hH (Hp.Kc h)
structure Sl{α:Type}(H:Hp)(sz:Nat)(R:List Value->α->Prop)(a:Option Addr)(l:List α):Prop where
 le:l.length<=lim
 at_:∀i (h:i<l.length),∃b o cs,a=some ⟨b,o,none⟩/\cs.length=sz/\(∀j x,cs[j]? =some x->H b (o+i*sz+j)=some x)/\R cs l[i]
theorem Sl.nil{α:Type}{H:Hp}{sz:Nat}{R:List Value->α->Prop}{a:Option Addr}:Sl H sz R a ([]:List α):=⟨by simp,λi hi=>by cases hi⟩
theorem Sl.addr{α:Type}{H:Hp}{sz:Nat}{R:List Value->α->Prop}{a:Option Addr}{l:List α}(h:Sl H sz R a l)(hl:0<l.length):∃b o,a=some ⟨b,o,none⟩:=
 let ⟨b,o,_,h1,_⟩:=h.at_ 0 hl;⟨b,o,h1⟩
structure Own{α:Type}(H:Hp)(w0 w:World)(e:TypeId)(sz:Nat)(R:Hp->List Value->α->Prop)(v:Value)(l:List α):Prop where
 ext:Ext w0 w
 hp:H.le (Hp.of w0)
 row:∃xs,w.ownsRow w0.heap.size e sz v l.length xs/\∀i (h:i<l.length),R (H.row w0 w v) ((xs.drop (i*sz)).take sz) l[i]
section
variable{α:Type}{H:Hp}{w0 w:World}{e:TypeId}{sz:Nat}{R:Hp->List Value->α->Prop}{v:Value}{l:List α}
end
section
variable{α:Type}{H:Hp}{w0 w:World}{e:TypeId}{sz:Nat}{R:Hp->List Value->α->Prop}{l:List α}{g cap:Nat}
end
theorem vd(w:World)(b j b' j':Nat)(v:Value):(w.setCell ⟨b,j,none⟩ v).cell? ⟨b',j',none⟩=if b=b'/\j=j' then (if (w.cell? ⟨b,j,none⟩).isSome then some v else none) else w.cell? ⟨b',j',none⟩:=by
 split
 .rename_i h;obtain⟨rfl,rfl⟩:=h;split
  .rename_i hs;exact World.cell?_setCell_same' _ _ _ hs
  .rename_i hs;have hn:w.cell? ⟨b,j,none⟩=none:=by simpa using hs
   cases hq:(w.setCell ⟨b,j,none⟩ v).cell? ⟨b,j,none⟩ with
   |none=>rfl
   |some u=>
    exfalso;revert hq;simp only[World.cell?,World.setCell,Array.getElem?_modify] at hn|-
    cases hb:w.heap[b]? with
    |none=>simp
    |some o=>
     rw[hb] at hn;cases o<;>simp_all
 .rename_i h;exact World.cell?_setCell_other _ _ _ _ (by simp;exact λe=>λf=>h ⟨e,f⟩)
end Go.CK
namespace Go.CK
open Go.RowKit
inductive Tm where
 |mk (kind num:Int) (name:ByteArray) (args:List Tm)
namespace Tm
def kind:Tm->Int|.mk k _ _ _=>k
def num:Tm->Int|.mk _ n _ _=>n
def name:Tm->ByteArray|.mk _ _ s _=>s
def args:Tm->List Tm|.mk _ _ _ l=>l
mutual
def beq:Tm->Tm->Bool
 |.mk k n s l,.mk k' n' s' l'=>decide (k=k')&&(decide (n=n')&&(decide (s=s')&&C5 l l'))
def C5:List Tm->List Tm->Bool
 |[],[]=>true
 |a::l,b::m=>beq a b&&C5 l m
 |_,_=>false
end
mutual
theorem beq_iff:∀a b:Tm,beq a b=true↔a=b
 |.mk k n s l,.mk k' n' s' l'=>by
  simp only[beq,ZD,decide_eq_true_eq,Bw l l',Tm.mk.injEq]
theorem Bw:∀l m:List Tm,C5 l m=true↔l=m
 |[],[]=>by simp[C5]
 |[],_::_=>by simp[C5]
 |_::_,[]=>by simp[C5]
 |a::l,b::m=>by simp[C5,beq_iff a b,Bw l m]
end
instance:DecidableEq Tm:=λa b=>decidable_of_iff (beq a b=true) (beq_iff a b)
mutual
def nodes:Tm->Nat
 |.mk _ _ _ l=>ai l+1
def ai:List Tm->Nat
 |[]=>0
 |a::l=>nodes a+ai l
end
end Tm
mutual
theorem Tm.bD{p:Tm->Prop}(h:∀k n s l,(∀t∈l,p t)->p (.mk k n s l)):∀t,p t
 |.mk k n s l=>h k n s l (Tm.AQ h l)
theorem Tm.AQ{p:Tm->Prop}(h:∀k n s l,(∀t∈l,p t)->p (.mk k n s l)):∀l:List Tm,∀t∈l,p t
 |[],_,ht=>by cases ht
 |a::l,t,ht=>by
  exact(ZI.1 ht).elim (λe=>e▸Tm.bD h a) (λh1=>Tm.AQ h l t h1)
end
inductive RTm (H:Hp):List Value->Tm->Prop
 |mk (k n:Int) (s:ByteArray) (a:Option Addr) (cap:Nat) (args:List Tm) (es:Nat->List Value) (bo:Nat×Nat)
  (hk:bW k) (hn:bW n) (hs:s.size<=lim) (hl:args.length<=lim) (hc:args.length<=cap) (ha:0<args.length->a=some ⟨bo.1,bo.2,none⟩)
  (hsz:∀i,i<args.length->(es i).length=4) (hcell:∀i,i<args.length->∀j x,(es i)[j]? =some x->H bo.1 (bo.2+i*4+j)=some x)
  (hr:∀i (h:i<args.length),RTm H (es i) args[i]):
  RTm H [.int .i64 k,.int .i64 n,.string s,.slice a args.length cap] (.mk k n s args)
abbrev Lf(H:Hp)(a:Option Addr)(l:List Tm):Prop:=Sl H 4 (RTm H) a l
theorem RTm.inv{H:Hp}{cs:List Value}{k n:Int}{s:ByteArray}{l:List Tm}(h:RTm H cs (.mk k n s l)):
  ∃a cap,cs=[.int .i64 k,.int .i64 n,.string s,.slice a l.length cap]/\bW k/\bW n/\s.size<=lim/\l.length<=cap/\Lf H a l:=by
 cases h with
 |mk k n s a cap args es bo hk hn hs hl hc ha hsz hcell hr=>
  exact⟨a,cap,rfl,hk,hn,hs,hc,⟨hl,λi hi=>⟨bo.1,bo.2,es i,ha (by omega),hsz i hi,hcell i hi,hr i hi⟩⟩⟩
theorem RTm.intro{H:Hp}{k n:Int}{s:ByteArray}{a:Option Addr}{cap:Nat}{l:List Tm}(hk:bW k)(hn:bW n)(hs:s.size<=lim)(hc:l.length<=cap)(h:Lf H a l):
  RTm H [.int .i64 k,.int .i64 n,.string s,.slice a l.length cap] (.mk k n s l):=by
 by_cases h0:0<l.length
 .obtain ⟨b,o,ha⟩:=h.addr h0;subst ha
  have hx:∀i,∃cs:List Value,i<l.length->cs.length=4/\(∀j x,cs[j]? =some x->H b (o+i*4+j)=some x)/\∀hi:i<l.length,RTm H cs l[i]:=by
   intro i
   by_cases hi:i<l.length
   .obtain ⟨b',o',cs,h1,h2,h3,h4⟩:=h.at_ i hi;simp only[ZN,Addr.mk.injEq,and_true] at h1;obtain⟨rfl,rfl⟩:=h1;exact⟨cs,λ_=>⟨h2,h3,λ_=>h4⟩⟩
   .exact ⟨[],λe=>(hi e).elim⟩
  exact .mk k n s _ cap l (λi=>(hx i).choose) (b,o) hk hn hs h.le hc (λ_=>rfl) (λi hi=>((hx i).choose_spec hi).1) (λi hi=>((hx i).choose_spec hi).2.1) (λi hi=>((hx i).choose_spec hi).2.2 hi)
 .exact .mk k n s a cap l (λ_=>[]) (0,0) hk hn hs h.le hc (λe=>(h0 e).elim) (λi hi=>by omega) (λi hi=>by omega) (λi hi=>by omega)
theorem RTm.one{H:Hp}{cs:List Value}{t:Tm}(h:RTm H cs t):∀u∈cs,u.oneCell'=true:=by
 cases h;simp[Value.oneCell']
end Go.CK
namespace Go.CK
open Go.RowKit
def RSl{α:Type}(sz:Nat)(R:Hp->List Value->α->Prop)(H:Hp)(c:List Value)(l:List α):Prop:=∃a k,c=[.slice a l.length k]/\l.length<=k/\Sl H sz (R H) a l
@[ext] structure At where
 name:ByteArray
 args:List Tm
deriving DecidableEq
@[ext] structure Gl where
 op:Int
 name:ByteArray
 args:List Tm
deriving DecidableEq
def RGl(H:Hp)(c:List Value)(x:Gl):Prop:=∃a1 k1,c=[.int .i64 x.op,.string x.name,.slice a1 x.args.length k1]/\bW x.op/\x.name.size<=lim/\x.args.length<=k1/\Sl H 4 (RTm H) a1 x.args
theorem RGl.one{H:Hp}{c:List Value}{x:Gl}(h:RGl H c x):∀u∈c,u.oneCell'=true:=by
 obtain⟨a1,k1,rfl,_h0,_h1,_h2,_h3⟩:=h;simp[Value.oneCell']
@[ext] structure Dc where
 name:ByteArray
 arity:Int
deriving DecidableEq
@[ext] structure Rl where
 name:ByteArray
 keep:List At
 remove:List At
 guard:List Gl
 body:List Gl
 vars:Int
deriving DecidableEq
@[ext] structure Pg where
 decls:List Dc
 rules:List Rl
deriving DecidableEq
@[ext] structure Oc where
 rule:Int
 head:Int
 kept:Bool
deriving DecidableEq
@[ext] structure Bd where
 var:Int
 term:Tm
deriving DecidableEq
def RBd(H:Hp)(c:List Value)(x:Bd):Prop:=∃c1,c=[.int .i64 x.var]++c1/\bW x.var/\RTm H c1 x.term
theorem RBd.one{H:Hp}{c:List Value}{x:Bd}(h:RBd H c x):∀u∈c,u.oneCell'=true:=by
 obtain⟨c1,rfl,_h0,_h1⟩:=h;have q0:=_h1.one;intro u hu;simp only[ZY,ZI,Xg,or_false] at hu;rcases hu with hu|hu
 all_goals first|exact q0 u hu|(subst hu;rfl)|(rcases hu with hu|hu<;>subst hu<;>rfl)|(rcases hu with hu|hu|hu<;>subst hu<;>rfl)
@[ext] structure It where
 id:Int
 atom:At
deriving DecidableEq
@[ext] structure Ft where
 id:Int
 atom:At
 just:List Int
deriving DecidableEq
@[ext] structure Fr where
 rule:Int
 ids:List Int
deriving DecidableEq
@[ext] structure Fm where
 goal:Gl
 id:Int
 occ:Int
deriving DecidableEq
@[ext] structure Ev where
 kind:Int
 id:Int
 occ:Int
 rule:Int
 ids:List Int
deriving DecidableEq
@[ext] structure Pl where
 occ:Oc
 order:List Int
 known:List (List Int)
 tests:List (List Int)
deriving DecidableEq
@[ext] structure Ac where
 name:ByteArray
 arity:Int
 positions:List Int
deriving DecidableEq
@[ext] structure Ky where
 name:ByteArray
 arity:Int
 positions:List Int
deriving DecidableEq
@[ext] structure Ak where
 rule:Int
 head:Int
 done:List Int
deriving DecidableEq
@[ext] structure Ct where
 rules:List Int
 tried:Int
 goals:Int
 steps:Int
deriving DecidableEq
end Go.CK
namespace Go.AM
open Go.CK Go.RowKit
inductive Cap where
 |no
 |full
 |own (sz:Nat)
deriving DecidableEq
inductive AV where
 |top
 |bool (b:Bool)
 |int (k:IntKind) (n:Int)
 |str (s:ByteArray)
 |sl (o:Cap) (l:List AV)
 |agg (cs:List AV)
 |tup (vs:List AV)
 |ptr (b off:Nat)
 |sP
 |ept (cs:List AV)
 |fn (f:Fn) (first caps:List AV)
 |yl (b:Nat)
 |bsl (b m k:Nat)
 |elp (b i z off:Nat)
 |mpt (b:Nat)
 |nfn
 |nmp
 |tY
deriving Inhabited
namespace AV
def cells:AV->List AV
 |.agg cs=>cs
 |v=>[v]
def isAgg:AV->Bool
 |.agg _=>true
 |_=>false
def aF:AV->AV
 |.sl (.own _) l=>.sl .no l
 |v=>v
def aU:AV->Bool
 |.top|.bool _|.int .. |.str _|.sP|.nfn|.nmp|.tY=>true
 |.sl (.own _) _=>false
 |.sl _ _=>true
 |_=>false
def flat:AV->Bool
 |.agg cs=>cs.all aU
 |v=>v.aU
def aD:AV->AV
 |.sl _ l=>.sl .no l
 |v=>v
def norm:AV->AV
 |.agg cs=>.agg (cs.map aD)
 |v=>v.aD
def lt0(n:Nat):AV->Bool
 |.ptr b _=>decide (b<n)
 |.yl b=>decide (b<n)
 |.bsl b _ _=>decide (b<n)
 |.elp b _ _ _=>decide (b<n)
 |.mpt b=>decide (b<n)
 |.ept _=>true
 |v=>v.aU
def lt1(n:Nat):AV->Bool
 |.fn _ xs ys=>xs.all (lt0 n)&&ys.all (lt0 n)
 |v=>v.lt0 n
def lt2(n:Nat):AV->Bool
 |.agg cs=>cs.all (lt1 n)
 |v=>v.lt1 n
def lt(n:Nat):AV->Bool
 |.agg cs=>cs.all (lt1 n)
 |.tup cs=>cs.all (lt2 n)
 |.ept _=>true
 |.sl _ _=>true
 |v=>v.lt1 n
end AV
inductive FV (M:Hp):AV->Value->Prop
 |top (v:Value):FV M .top v
 |bool (b:Bool):FV M (.bool b) (.bool b)
 |int (k:IntKind) (n:Int):FV M (.int k n) (.int k n)
 |str (s:ByteArray) (h:s.size<=lim):FV M (.str s) (.string s)
 |sl (o:Cap) (l:List AV) (a:Option Addr) (k B off sz:Nat) (ho:∀z,o≠.own z) (hk:l.length<=k) (hl:l.length<=lim) (hf:o=.full->k=l.length)
   (ha:l≠[]->a=some ⟨B,off,none⟩) (hz:∀i (h:i<l.length),l[i].cells.length=sz)
   (hm:∀i,i<l.length->∀j,j<sz->∃v,M B (off+i*sz+j)=some v/\v.oneCell'=true)
   (hv:∀i (h:i<l.length) j (hj:j<l[i].cells.length) v,M B (off+i*sz+j)=some v->FV M (l[i].cells[j]) v):FV M (.sl o l) (.slice a l.length k)
 |agg (cs:List AV) (vs:List Value) (hl:vs.length=cs.length) (h1:∀v∈vs,v.oneCell'=true)
   (hv:∀j (h:j<cs.length) v,vs[j]? =some v->FV M cs[j] v):FV M (.agg cs) (.agg vs.toArray)
 |sP:FV M .sP (.pointer none)
 |nfn:FV M .nfn .nilFunc
 |nmp:FV M .nmp (.map none)
 |tY:FV M .tY .nilIface
def Cells(M:Hp)(B off:Nat)(cs:List AV):Prop:=∀j (h:j<cs.length),∃v,M B (off+j)=some v/\v.oneCell'=true/\FV M cs[j] v
def fO(M:Hp)(B off sz:Nat)(l:List AV):Prop:=∀i (h:i<l.length),l[i].cells.length=sz/\Cells M B (off+i*sz) l[i].cells
theorem FV.mono{M M':Hp}(hM:M.le M'){x:AV}{v:Value}(h:FV M x v):FV M' x v:=by
 induction h with
 |top v=>exact .top v
 |bool b=>exact .bool b
 |int k n=>exact .int k n
 |str s h=>exact .str s h
 |sl o l a k B off sz ho hk hl hf ha hz hm hv ih=>
  refine .sl o l a k B off sz ho hk hl hf ha hz (λi hi j hj=>let ⟨v,h1,h2⟩:=hm i hi j hj;⟨v,hM _ _ _ h1,h2⟩) (λi hi j hj v hv'=>?_);obtain⟨v0,h1,_⟩:=hm i hi j (by rw[<-hz i hi];exact hj)
  have:=hM _ _ _ h1;rw[this] at hv';cases hv'
  exact ih i hi j hj _ h1
 |agg cs vs hl h1 hv ih=>exact .agg cs vs hl h1 ih
 |sP=>exact .sP
 |nfn=>exact .nfn
 |nmp=>exact .nmp
 |tY=>exact .tY
theorem Cells.mono{M M':Hp}(hM:M.le M'){B off:Nat}{cs:List AV}(h:Cells M B off cs):Cells M' B off cs:=
 λj hj=>let ⟨v,h1,h2,h3⟩:=h j hj;⟨v,hM _ _ _ h1,h2,h3.mono hM⟩
theorem Cells.drop{M:Hp}{B off:Nat}{cs:List AV}(h:Cells M B off cs)(k:Nat):Cells M B (off+k) (cs.drop k):=λj hj=>by
 simp only[Yf] at hj;obtain⟨v,h1,h2,h3⟩:=h (k+j) (by omega)
 exact⟨v,by rw[Yo];exact h1,h2,by rw[XI];exact h3⟩
theorem FV.iT{M:Hp}{o:Cap}{l:List AV}{a:Option Addr}{k B off sz:Nat}(ho:∀z,o≠.own z)(hk:l.length<=k)(hl:l.length<=lim)(hf:o=.full->k=l.length)
  (ha:l≠[]->a=some ⟨B,off,none⟩) (he:fO M B off sz l):FV M (.sl o l) (.slice a l.length k):=by
 refine .sl o l a k B off sz ho hk hl hf ha (λi h=>(he i h).1) (λi hi j hj=>?_) (λi hi j hj v hv=>?_)
 .obtain ⟨h1,h2⟩:=he i hi;obtain⟨v,h3,h4,_⟩:=h2 j (by omega)
  exact⟨v,h3,h4⟩
 .obtain ⟨h1,h2⟩:=he i hi;obtain⟨v',h3,_,h5⟩:=h2 j hj;rw[h3] at hv;cases hv;exact h5
theorem FV.ez{M:Hp}{o:Cap}{l:List AV}{v:Value}(h:FV M (.sl o l) v):
  ∃a k B off sz,v=.slice a l.length k/\(∀z,o≠.own z)/\l.length<=k/\l.length<=lim/\(o=.full->k=l.length)/\(l≠[]->a=some ⟨B,off,none⟩)/\fO M B off sz l:=by
 cases h with
 |sl _ _ a k B off sz ho hk hl hf ha hz hm hv=>
  refine⟨a,k,B,off,sz,rfl,ho,hk,hl,hf,ha,λi hi=>⟨hz i hi,λj hj=>?_⟩⟩;obtain⟨v,h1,h2⟩:=hm i hi j (by rw[<-hz i hi];exact hj)
  exact⟨v,h1,h2,hv i hi j hj v h1⟩
inductive RV (M:Hp) (σ:Nat->Nat) (n:Nat):AV->Value->Prop
 |flat {x:AV} {v:Value} (h:FV M x v):RV M σ n x v
 |agg (cs:List AV) (vs:List Value) (hl:vs.length=cs.length) (h1:∀v∈vs,v.oneCell'=true)
   (hv:∀j (h:j<cs.length) v,vs[j]? =some v->RV M σ n cs[j] v):RV M σ n (.agg cs) (.agg vs.toArray)
 |tup (cs:List AV) (vs:List Value) (hl:vs.length=cs.length)
   (hv:∀j (h:j<cs.length) v,vs[j]? =some v->RV M σ n cs[j] v):RV M σ n (.tup cs) (.tuple vs.toArray)
 |ptr (b off:Nat) (h:b<n):RV M σ n (.ptr b off) (.pointer (some ⟨σ b,off,none⟩))
 |ept (cs:List AV) (B off:Nat) (h:Cells M B off cs):RV M σ n (.ept cs) (.pointer (some ⟨B,off,none⟩))
 |fn (f:Fn) (xs ys:List AV) (us vs:List Value) (h1:us.length=xs.length) (h2:vs.length=ys.length)
   (hx:∀j (h:j<xs.length) v,us[j]? =some v->RV M σ n xs[j] v) (hy:∀j (h:j<ys.length) v,vs[j]? =some v->RV M σ n ys[j] v):
   RV M σ n (.fn f xs ys) (.func f us.toArray vs.toArray)
 |yl (b:Nat) (h:b<n):RV M σ n (.yl b) (.func (.yield (σ b)) #[] #[])
 |bsl (b m k:Nat) (a:Option Addr) (h:b<n) (hk:m<=k) (hl:m<=glim) (ha:k≠0->a=some ⟨σ b,0,none⟩):RV M σ n (.bsl b m k) (.slice a m k)
 |elp (b i z off:Nat) (h:b<n):RV M σ n (.elp b i z off) (.pointer (some ⟨σ b,i*z+off,none⟩))
 |mpt (b:Nat) (h:b<n):RV M σ n (.mpt b) (.map (some (σ b)))
theorem RV.mono{M M':Hp}(hM:M.le M'){σ σ':Nat->Nat}{n n':Nat}(hn:n<=n')(hσ:∀b,b<n->σ' b=σ b){x:AV}{v:Value}(h:RV M σ n x v):RV M' σ' n' x v:=by
 induction h with
 |flat h=>exact .flat (h.mono hM)
 |agg cs vs hl h1 _ ih=>exact .agg cs vs hl h1 ih
 |tup cs vs hl _ ih=>exact .tup cs vs hl ih
 |ptr b off h=>rw[<-hσ b h];exact .ptr b off (by omega)
 |ept cs B off h=>exact .ept cs B off (h.mono hM)
 |fn f xs ys us vs h1 h2 _ _ ih1 ih2=>exact .fn f xs ys us vs h1 h2 ih1 ih2
 |yl b h=>rw[<-hσ b h];exact .yl b (by omega)
 |bsl b m k a h hk hl ha=>exact .bsl b m k a (by omega) hk hl (by rw[hσ b h];exact ha)
 |elp b i z off h=>rw[<-hσ b h];exact .elp b i z off (by omega)
 |mpt b h=>rw[<-hσ b h];exact .mpt b (by omega)
section inv
variable{M:Hp}{σ:Nat->Nat}{n:Nat}{v:Value}
theorem RV.cB{b:Bool}(h:RV M σ n (.bool b) v):v=.bool b:=by cases h with|flat h=>cases h;rfl
theorem RV.aC{k:IntKind}{m:Int}(h:RV M σ n (.int k m) v):v=.int k m:=by cases h with|flat h=>cases h;rfl
theorem RV.dG{s:ByteArray}(h:RV M σ n (.str s) v):v=.string s/\s.size<=lim:=by cases h with|flat h=>cases h with|str _ h=>exact⟨rfl,h⟩
theorem RV.ez{o:Cap}{l:List AV}(h:RV M σ n (.sl o l) v):
  ∃a k B off sz,v=.slice a l.length k/\(∀z,o≠.own z)/\l.length<=k/\l.length<=lim/\(o=.full->k=l.length)/\(l≠[]->a=some ⟨B,off,none⟩)/\fO M B off sz l:=by
 cases h with|flat h=>exact h.ez
theorem RV.eA{cs:List AV}(h:RV M σ n (.agg cs) v):∃vs:List Value,v=.agg vs.toArray/\vs.length=cs.length/\(∀v∈vs,v.oneCell'=true)/\∀j (h:j<cs.length) v,vs[j]? =some v->RV M σ n cs[j] v:=by
 cases h with
 |flat h=>cases h with|agg _ vs hl h1 hv=>exact⟨vs,rfl,hl,h1,λj h v hj=>.flat (hv j h v hj)⟩
 |agg _ vs hl h1 hv=>exact⟨vs,rfl,hl,h1,hv⟩
theorem RV.s8{cs:List AV}(h:RV M σ n (.tup cs) v):∃vs:List Value,v=.tuple vs.toArray/\vs.length=cs.length/\∀j (h:j<cs.length) v,vs[j]? =some v->RV M σ n cs[j] v:=by
 cases h with
 |flat h=>cases h
 |tup _ vs hl hv=>exact⟨vs,rfl,hl,hv⟩
theorem RV.gg{b off:Nat}(h:RV M σ n (.ptr b off) v):v=.pointer (some ⟨σ b,off,none⟩)/\b<n:=by
 cases h with
 |flat h=>cases h
 |ptr _ _ h=>exact⟨rfl,h⟩
theorem RV.DN(h:RV M σ n .nfn v):v=.nilFunc:=by cases h with|flat h=>cases h;rfl
theorem RV.qg{cs:List AV}(h:RV M σ n (.ept cs) v):∃B off,v=.pointer (some ⟨B,off,none⟩)/\Cells M B off cs:=by
 cases h with
 |flat h=>cases h
 |ept _ B off h=>exact⟨B,off,rfl,h⟩
theorem RV.pf{f:Fn}{xs ys:List AV}(h:RV M σ n (.fn f xs ys) v):∃us vs:List Value,v=.func f us.toArray vs.toArray/\us.length=xs.length/\vs.length=ys.length/\
  (∀j (h:j<xs.length) v,us[j]? =some v->RV M σ n xs[j] v)/\(∀j (h:j<ys.length) v,vs[j]? =some v->RV M σ n ys[j] v):=by
 cases h with
 |flat h=>cases h
 |fn _ _ _ us vs h1 h2 h3 h4=>exact⟨us,vs,rfl,h1,h2,h3,h4⟩
theorem RV.Hc{b:Nat}(h:RV M σ n (.yl b) v):v=.func (.yield (σ b)) #[] #[]/\b<n:=by
 cases h with
 |flat h=>cases h
 |yl _ h=>exact⟨rfl,h⟩
theorem RV.dH{b m k:Nat}(h:RV M σ n (.bsl b m k) v):∃a,v=.slice a m k/\b<n/\m<=k/\m<=glim/\(k≠0->a=some ⟨σ b,0,none⟩):=by
 cases h with
 |flat h=>cases h
 |bsl _ _ _ a h hk hl ha=>exact⟨a,rfl,h,hk,hl,ha⟩
theorem RV.qh{b i z off:Nat}(h:RV M σ n (.elp b i z off) v):v=.pointer (some ⟨σ b,i*z+off,none⟩)/\b<n:=by
 cases h with
 |flat h=>cases h
 |elp _ _ _ _ h=>exact⟨rfl,h⟩
theorem RV.gh{b:Nat}(h:RV M σ n (.mpt b) v):v=.map (some (σ b))/\b<n:=by
 cases h with
 |flat h=>cases h
 |mpt _ h=>exact⟨rfl,h⟩
theorem RV.aU{x:AV}(h:RV M σ n x v)(hf:x.aU=true):FV M x v:=by
 cases h with
 |flat h=>exact h
 |agg=>simp[AV.aU] at hf
 |tup=>simp[AV.aU] at hf
 |ptr=>simp[AV.aU] at hf
 |ept=>simp[AV.aU] at hf
 |fn=>simp[AV.aU] at hf
 |yl=>simp[AV.aU] at hf
 |bsl=>simp[AV.aU] at hf
 |elp=>simp[AV.aU] at hf
 |mpt=>simp[AV.aU] at hf
theorem RV.Ii{x:AV}(h:RV M σ n x v)(hf:x.flat=true):FV M x v:=by
 cases h with
 |flat h=>exact h
 |agg cs vs hl h1 hv=>
  simp only[AV.flat,ZS] at hf
  exact .agg cs vs hl h1 λj hj v hjv=>(hv j hj v hjv).aU (hf _ (Zc hj))
 |tup=>simp[AV.flat,AV.aU] at hf
 |ptr=>simp[AV.flat,AV.aU] at hf
 |ept=>simp[AV.flat,AV.aU] at hf
 |fn=>simp[AV.flat,AV.aU] at hf
 |yl=>simp[AV.flat,AV.aU] at hf
 |bsl=>simp[AV.flat,AV.aU] at hf
 |elp=>simp[AV.flat,AV.aU] at hf
 |mpt=>simp[AV.flat,AV.aU] at hf
theorem FV.aD{x:AV}(h:FV M x v):FV M x.aD v:=by
 cases h with
 |sl o l a k B off sz ho hk hl hf ha hz hm hv=>exact .sl .no l a k B off sz (λz e=>by cases e) hk hl (λe=>by cases e) ha hz hm hv
 |top v=>exact .top v
 |bool b=>exact .bool b
 |int k n=>exact .int k n
 |str s h=>exact .str s h
 |agg cs vs hl h1 hv=>exact .agg cs vs hl h1 hv
 |sP=>exact .sP
 |nfn=>exact .nfn
 |nmp=>exact .nmp
 |tY=>exact .tY
theorem RV.aD{x:AV}(h:RV M σ n x v):RV M σ n x.aD v:=by
 cases h with
 |flat h=>exact .flat h.aD
 |agg cs vs hl h1 hv=>exact .agg cs vs hl h1 hv
 |tup cs vs hl hv=>exact .tup cs vs hl hv
 |ptr b off h=>exact .ptr b off h
 |ept cs B off h=>exact .ept cs B off h
 |fn f xs ys us vs h1 h2 hx hy=>exact .fn f xs ys us vs h1 h2 hx hy
 |yl b h=>exact .yl b h
 |bsl b m k a h hk hl ha=>exact .bsl b m k a h hk hl ha
 |elp b i z off h=>exact .elp b i z off h
 |mpt b h=>exact .mpt b h
theorem RV.norm{x:AV}(h:RV M σ n x v):RV M σ n x.norm v:=by
 cases x with
 |agg cs=>
  obtain⟨vs,rfl,hl,h1,hv⟩:=h.eA;refine .agg _ vs (by simpa using hl) h1 λj hj v hjv=>?_
  simp only[ZF] at hj;rw[YA]
  exact(hv j hj v hjv).aD
 |_=>exact h.aD
theorem Bf(x:AV):x.aF.aD=x.aD:=by
 cases x with
 |sl o l=>cases o<;>rfl
 |_=>rfl
theorem CY(x:AV):x.aF.norm=x.norm:=by
 cases x with
 |sl o l=>cases o<;>rfl
 |_=>rfl
theorem RV.bP{x:AV}(h:RV M σ n x v):x.aF=x:=by
 cases h with
 |flat h=>
  cases h with
  |sl o l a k B off sz ho=>cases o with
   |own z=>exact absurd rfl (ho z)
   |_=>rfl
  |_=>rfl
 |_=>rfl
theorem RV.lt0{x:AV}{m:Nat}(h:RV M σ n x v)(hf:x.lt0 m=true):RV M σ m x v:=by
 cases h with
 |flat h=>exact .flat h
 |ptr b off _=>exact .ptr b off (by simpa[AV.lt0] using hf)
 |agg=>simp[AV.lt0,AV.aU] at hf
 |tup=>simp[AV.lt0,AV.aU] at hf
 |ept cs B off h=>exact .ept cs B off h
 |fn=>simp[AV.lt0,AV.aU] at hf
 |yl b _=>exact .yl b (by simpa[AV.lt0] using hf)
 |bsl b m k a h hk hl ha=>exact .bsl b m k a (by simpa[AV.lt0] using hf) hk hl ha
 |elp b i z off _=>exact .elp b i z off (by simpa[AV.lt0] using hf)
 |mpt b _=>exact .mpt b (by simpa[AV.lt0] using hf)
theorem RV.lt1{x:AV}{m:Nat}(h:RV M σ n x v)(hf:x.lt1 m=true):RV M σ m x v:=by
 cases h with
 |fn f xs ys us vs h1 h2 hx hy=>
  simp only[AV.lt1,ZD,ZS] at hf
  exact .fn f xs ys us vs h1 h2 (λj hj v e=>(hx j hj v e).lt0 (hf.1 _ (Zc hj))) (λj hj v e=>(hy j hj v e).lt0 (hf.2 _ (Zc hj)))
 |flat h=>exact .flat h
 |ptr b off k=>exact(RV.ptr (M:=M) (σ:=σ) b off k).lt0 (by simpa[AV.lt1] using hf)
 |agg=>simp[AV.lt1,AV.lt0,AV.aU] at hf
 |tup=>simp[AV.lt1,AV.lt0,AV.aU] at hf
 |ept cs B off h=>exact .ept cs B off h
 |yl b k=>exact(RV.yl (M:=M) (σ:=σ) b k).lt0 (by simpa[AV.lt1] using hf)
 |bsl b q k a h hk hl ha=>exact(RV.bsl (M:=M) (σ:=σ) b q k a h hk hl ha).lt0 (by simpa[AV.lt1] using hf)
 |elp b i z off h=>exact(RV.elp (M:=M) (σ:=σ) b i z off h).lt0 (by simpa[AV.lt1] using hf)
 |mpt b h=>exact(RV.mpt (M:=M) (σ:=σ) b h).lt0 (by simpa[AV.lt1] using hf)
theorem RV.lt2{x:AV}{m:Nat}(h:RV M σ n x v)(hf:x.lt2 m=true):RV M σ m x v:=by
 cases x with
 |agg cs=>
  obtain⟨vs,rfl,hl,h1,hv⟩:=h.eA;simp only[AV.lt2,ZS] at hf
  exact .agg cs vs hl h1 λj hj v e=>(hv j hj v e).lt1 (hf _ (Zc hj))
 |_=>exact h.lt1 hf
theorem RV.lt{x:AV}{m:Nat}(h:RV M σ n x v)(hf:x.lt m=true):RV M σ m x v:=by
 cases h with
 |flat h=>exact .flat h
 |agg cs vs hl h1 hv=>
  simp only[AV.lt,ZS] at hf
  exact .agg cs vs hl h1 λj hj v e=>(hv j hj v e).lt1 (hf _ (Zc hj))
 |tup cs vs hl hv=>
  simp only[AV.lt,ZS] at hf
  exact .tup cs vs hl λj hj v e=>(hv j hj v e).lt2 (hf _ (Zc hj))
 |ptr b off k=>exact(RV.ptr (M:=M) (σ:=σ) b off k).lt1 (by simpa[AV.lt] using hf)
 |ept cs B off h=>exact .ept cs B off h
 |fn f xs ys us vs h1 h2 hx hy=>exact(RV.fn f xs ys us vs h1 h2 hx hy).lt1 (by simpa[AV.lt] using hf)
 |yl b k=>exact(RV.yl (M:=M) (σ:=σ) b k).lt1 (by simpa[AV.lt] using hf)
 |bsl b q k a h hk hl ha=>exact(RV.bsl (M:=M) (σ:=σ) b q k a h hk hl ha).lt1 (by simpa[AV.lt] using hf)
 |elp b i z off h=>exact(RV.elp (M:=M) (σ:=σ) b i z off h).lt1 (by simpa[AV.lt] using hf)
 |mpt b h=>exact(RV.mpt (M:=M) (σ:=σ) b h).lt1 (by simpa[AV.lt] using hf)
end inv
theorem uj(m:Nat)(x:AV):x.aF.lt m=x.lt m:=by
 cases x with
 |sl o l=>cases o<;>rfl
 |_=>rfl
end Go.AM
