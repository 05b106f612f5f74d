/-
  Texts of this bj joined (wip/gen/bundle.py),those declarations only that are needed:Base AmV AmS. By an AI agent.
-/
import Derived.WalkKit
import Derived.WalkSpells
import Derived.WalkLawsBesides
import Derived.Lib.Hide
import Derived.RangeFuncMany
set_option linter.unusedSimpArgs false
set_option linter.unusedVariables false
abbrev zA:=@List.getElem?_eq_getElem
abbrev zB:=@List.getElem?_eq_some_iff
abbrev zC:=@List.length_append
abbrev zD:=@Bool.and_eq_true
abbrev zE:=@List.mem_of_getElem?
abbrev zF:=@List.length_map
abbrev zG:=@Nat.le_refl
abbrev zH:=@List.drop_eq_getElem_cons
abbrev zI:=@List.mem_cons
abbrev zJ:=@Nat.zero_le
abbrev zK:=@List.getElem?_append_left
abbrev zL:=@List.eq_nil_of_length_eq_zero
abbrev zM:=@Option.map_some
abbrev zO:=@Option.some.injEq
abbrev zP:=@Nat.eq_of_beq_eq_true
abbrev zQ:=@List.map_cons
abbrev zR:=@List.mem_cons_of_mem
abbrev zS:=@List.getElem?_eq_none
abbrev zT:=@List.all_eq_true
abbrev zU:=@Array.getD_eq_getD_getElem?
abbrev zV:=@List.mem_cons_self
abbrev zW:=@Array.getElem?_setIfInBounds_ne
abbrev zX:=@List.length_cons
abbrev zY:=@List.mem_append
abbrev zZ:=@List.getElem?_append_right
abbrev za:=@Bool.true_and
abbrev zb:=@Bool.not_eq_true'
abbrev zc:=@List.getElem_mem
abbrev zd:=@List.mem_range
abbrev ze:=@List.cons_append
abbrev zf:=@List.length_replicate
abbrev zg:=@List.append_assoc
abbrev zh:=@Array.getElem?_eq_some_iff
abbrev zi:=@Array.getElem?_eq_getElem
abbrev zj:=@List.drop_length
abbrev zk:=@List.mem_map
abbrev zl:=@List.take_of_length_le
abbrev zm:=@List.length_set
abbrev zn:=@List.length_take
abbrev zo:=@List.mem_filter
abbrev zp:=@List.mem_singleton
abbrev zq:=@List.getElem?_set
abbrev zr:=@Nat.le_of_ble_eq_true
abbrev zt:=@Nat.lt_or_ge
abbrev zu:=@List.map_append
abbrev zw:=@Bool.false_and
abbrev zy:=@List.append_nil
abbrev zz:=@List.take_length
abbrev ZA:=@List.pairwise_cons
abbrev ZB:=@List.mem_append_left
abbrev ZC:=@List.take_add_one
abbrev ZD:=@List.getElem_map
abbrev ZE:=@Nat.mul_le_mul_right
abbrev ZF:=@List.getElem?_map
abbrev ZG:=@Option.bind_some
abbrev ZH:=@List.getElem_append_left
abbrev ZI:=@Nat.zero_add
abbrev ZJ:=@Array.length_toList
abbrev ZK:=@List.take_zero
abbrev ZL:=@Nat.add_mul
abbrev ZM:=@Bool.or_eq_true
abbrev ZN:=@Nat.le_trans
abbrev ZO:=@Array.all_eq_true_iff_forall_mem
abbrev ZP:=@List.length_nil
abbrev ZQ:=@List.getElem_cons_zero
abbrev ZR:=@Option.getD_some
abbrev ZS:=@Nat.lt_of_lt_of_le
abbrev ZT:=@List.mem_append_right
abbrev ZU:=@List.mem_map_of_mem
abbrev ZV:=@List.length_eq_zero_iff
abbrev ZW:=@List.getElem_append_right
abbrev ZX:=@Bool.false_eq_true
abbrev ZY:=@List.mem_replicate
abbrev ZZ:=@List.mem_iff_getElem
abbrev Za:=@List.getElem?_take
abbrev Zb:=@List.nodup_cons
abbrev Zc:=@List.length_drop
abbrev Zd:=@List.getElem?_set_ne
abbrev Ze:=@Nat.add_zero
abbrev Zf:=@List.getElem_cons_succ
abbrev Zg:=@Array.getElem?_eq_none
abbrev Zh:=@Nat.add_assoc
abbrev Zi:=@List.getElem?_cons_zero
abbrev Zj:=@List.filter_congr
abbrev Zk:=@Int.toNat_natCast
abbrev Zl:=@List.getElem_take
abbrev Zm:=@List.getElem_of_mem
abbrev Zn:=@Nat.div_lt_iff_lt_mul
abbrev Zo:=@List.filter_cons_of_neg
abbrev Zp:=@List.getElem_replicate
abbrev Zq:=@Option.isSome_none
abbrev Zr:=@List.foldl_cons
abbrev Zs:=@Nat.zero_lt_one
abbrev Zt:=@List.cons.injEq
abbrev Zu:=@List.length_filter_le
abbrev Zv:=@List.getElem_drop
abbrev Zw:=@Nat.le_add_right
abbrev Zx:=@List.filter_eq_self
abbrev Zy:=@List.take_succ_cons
abbrev Zz:=@Array.getElem?_replicate
abbrev yA:=@Option.isSome_iff_exists
abbrev yB:=@Option.map_none
abbrev yC:=@Option.some.inj
abbrev yD:=@List.filter_cons_of_pos
abbrev yE:=@Nat.sub_self
abbrev yF:=@List.pairwise_lt_range
abbrev yG:=@List.drop_zero
abbrev yH:=@List.set_append_right
abbrev yI:=@List.getElem?_toArray
abbrev yJ:=@List.not_mem_nil
abbrev yK:=@Go.Result.andThen_ok
abbrev yL:=@Go.Sem.run_bind
abbrev yM:=@Go.Sem.run_pure
namespace Go.CK
open Go.RowKit
def lim:Nat:=4294967296
def iY(n:Int):Prop:=-9223372036854775808<=n/\n<=9223372036854775807
theorem iY.H8{n:Int}(h:(Lit.int .i64 n).wf=true):iY n:=by
 simpa[Lit.wf,IntKind.min,IntKind.max,IntKind.signed,IntKind.bits,iY] using h
structure Ext(w w':World):Prop where
 bel:Below w.heap.size w w'
theorem Ext.refl(w:World):Ext w w:=⟨Below.refl _ _⟩
theorem Ext.size{w w':World}(h:Ext w w'):w.heap.size<=w'.heap.size:=h.bel.size
theorem Ext.alloc{a b:World}(h:Ext a b)(o:Obj):Ext a (b.alloc o):=⟨h.bel.alloc h.size o⟩
theorem Ext.cell{a b:World}(h:Ext a b){p:Addr}{v:Value}(hv:a.cell? p=some v):b.cell? p=some v:=by
 rw[h.bel.cell (World.block_lt_of_cell? a p hv)];exact hv
abbrev Hp:=Nat->Nat->Option Value
def Hp.le(H H':Hp):Prop:=∀b o v,H b o=some v->H' b o=some v
def Hp.of(w:World):Hp:=λb o=>w.cell? ⟨b,o,none⟩
def Hp.plus(H:Hp)(w w':World):Hp:=λb o=>if w.heap.size<=b then w'.cell? ⟨b,o,none⟩ else H b o
def Hp.row(H:Hp)(w w':World)(v:Value):Hp:=λb o=>if v.ownBlock=some b then none else H.plus w w' b o
theorem Hp.le_refl(H:Hp):H.le H:=λ_ _ _ h=>h
theorem Hp.le_trans{A B C:Hp}(h:A.le B)(k:B.le C):A.le C:=λ_ _ _ x=>k _ _ _ (h _ _ _ x)
theorem Hp.lt{H:Hp}{w:World}(h:H.le (Hp.of w)){b o:Nat}{v:Value}(hv:H b o=some v):b<w.heap.size:=World.block_lt_of_cell? w _ (h _ _ _ hv)
theorem Hp.Hm{w w':World}(h:Ext w w'):(Hp.of w).le (Hp.of w'):=λ_ _ _ x=>h.cell x
theorem Hp.ext{H:Hp}{w w':World}(hH:H.le (Hp.of w))(h:Ext w w'):H.le (Hp.of w'):=Hp.le_trans hH (Hp.Hm h)
structure Sl{α:Type}(H:Hp)(sz:Nat)(R:List Value->α->Prop)(a:Option Addr)(l:List α):Prop where
 le:l.length<=lim
 at_:∀i (h:i<l.length),∃b o cs,a=some ⟨b,o,none⟩/\cs.length=sz/\(∀j x,cs[j]? =some x->H b (o+i*sz+j)=some x)/\R cs l[i]
theorem Sl.mono{α:Type}{H H':Hp}{sz:Nat}{R R':List Value->α->Prop}{a:Option Addr}{l:List α}(h:Sl H sz R a l)(hH:H.le H')(hR:∀cs x,x∈l->R cs x->R' cs x):Sl H' sz R' a l:=
 ⟨h.le,λi hi=>let ⟨b,o,cs,h1,h2,h3,h4⟩:=h.at_ i hi;⟨b,o,cs,h1,h2,λj x hx=>hH _ _ _ (h3 j x hx),hR _ _ (zc hi) h4⟩⟩
theorem Sl.nil{α:Type}{H:Hp}{sz:Nat}{R:List Value->α->Prop}{a:Option Addr}:Sl H sz R a ([]:List α):=⟨by simp,λi hi=>by cases hi⟩
theorem Sl.addr{α:Type}{H:Hp}{sz:Nat}{R:List Value->α->Prop}{a:Option Addr}{l:List α}(h:Sl H sz R a l)(hl:0<l.length):∃b o,a=some ⟨b,o,none⟩:=
 let ⟨b,o,_,h1,_⟩:=h.at_ 0 hl;⟨b,o,h1⟩
section
variable{α:Type}{H:Hp}{w0 w:World}{e:TypeId}{sz:Nat}{R:Hp->List Value->α->Prop}{v:Value}{l:List α}
end
section
variable{α:Type}{H:Hp}{w0 w:World}{e:TypeId}{sz:Nat}{R:Hp->List Value->α->Prop}{l:List α}{g cap:Nat}
end
theorem tv(w:World)(b j b' j':Nat)(v:Value):(w.setCell ⟨b,j,none⟩ v).cell? ⟨b',j',none⟩=if b=b'/\j=j' then (if (w.cell? ⟨b,j,none⟩).isSome then some v else none) else w.cell? ⟨b',j',none⟩:=by
 split
 .rename_i h;obtain⟨rfl,rfl⟩:=h;split
  .rename_i hs;exact World.cell?_setCell_same' _ _ _ hs
  .rename_i hs;have hn:w.cell? ⟨b,j,none⟩=none:=by simpa using hs
   cases hq:(w.setCell ⟨b,j,none⟩ v).cell? ⟨b,j,none⟩ with
   |none=>rfl
   |some u=>
    exfalso;revert hq;simp only[World.cell?,World.setCell,Array.getElem?_modify] at hn|-
    cases hb:w.heap[b]? with
    |none=>simp
    |some o=>
     rw[hb] at hn;cases o<;>simp_all
 .rename_i h;exact World.cell?_setCell_other _ _ _ _ (by simp;exact λe=>λf=>h ⟨e,f⟩)
end Go.CK
namespace Go.AM
open Go.CK Go.RowKit
inductive Cap where
 |no
 |full
 |own (sz:Nat)
deriving DecidableEq
inductive AV where
 |top
 |bool (b:Bool)
 |int (k:IntKind) (n:Int)
 |str (s:ByteArray)
 |sl (o:Cap) (l:List AV)
 |agg (cs:List AV)
 |tup (vs:List AV)
 |ptr (b off:Nat)
 |pz
 |ept (cs:List AV)
 |fn (f:Fn) (first caps:List AV)
 |yl (b:Nat)
 |bsl (b m k:Nat)
 |elp (b i z off:Nat)
 |mpt (b:Nat)
 |nfn
 |nmp
 |sK
 |lit (a:Option Addr) (n k:Nat)
deriving Inhabited
namespace AV
def cells:AV->List AV
 |.agg cs=>cs
 |v=>[v]
def isAgg:AV->Bool
 |.agg _=>true
 |_=>false
def aF:AV->AV
 |.sl (.own _) l=>.sl .no l
 |v=>v
def aW:AV->Bool
 |.top|.bool _|.int .. |.str _|.pz|.nfn|.nmp|.sK|.lit .. =>true
 |.sl (.own _) _=>false
 |.sl _ _=>true
 |_=>false
def flat:AV->Bool
 |.agg cs=>cs.all aW
 |v=>v.aW
def aj:AV->AV
 |.sl _ l=>.sl .no l
 |v=>v
def norm:AV->AV
 |.agg cs=>.agg (cs.map aj)
 |v=>v.aj
def lt0(n:Nat):AV->Bool
 |.ptr b _=>decide (b<n)
 |.yl b=>decide (b<n)
 |.bsl b _ _=>decide (b<n)
 |.elp b _ _ _=>decide (b<n)
 |.mpt b=>decide (b<n)
 |.ept _=>true
 |v=>v.aW
def lt1(n:Nat):AV->Bool
 |.fn _ xs ys=>xs.all (lt0 n)&&ys.all (lt0 n)
 |v=>v.lt0 n
def lt2(n:Nat):AV->Bool
 |.agg cs=>cs.all (lt1 n)
 |v=>v.lt1 n
def lt(n:Nat):AV->Bool
 |.agg cs=>cs.all (lt1 n)
 |.tup cs=>cs.all (lt2 n)
 |.ept _=>true
 |.sl _ _=>true
 |v=>v.lt1 n
end AV
inductive FV (M:Hp):AV->Value->Prop
 |top (v:Value):FV M .top v
 |bool (b:Bool):FV M (.bool b) (.bool b)
 |int (k:IntKind) (n:Int):FV M (.int k n) (.int k n)
 |str (s:ByteArray) (h:s.size<=lim):FV M (.str s) (.string s)
 |sl (o:Cap) (l:List AV) (a:Option Addr) (k B off sz:Nat) (ho:∀z,o≠.own z) (hk:l.length<=k) (hl:l.length<=lim) (hf:o=.full->k=l.length)
   (ha:l≠[]->a=some ⟨B,off,none⟩) (hz:∀i (h:i<l.length),l[i].cells.length=sz)
   (hm:∀i,i<l.length->∀j,j<sz->∃v,M B (off+i*sz+j)=some v/\v.oneCell'=true)
   (hv:∀i (h:i<l.length) j (hj:j<l[i].cells.length) v,M B (off+i*sz+j)=some v->FV M (l[i].cells[j]) v):FV M (.sl o l) (.slice a l.length k)
 |agg (cs:List AV) (vs:List Value) (hl:vs.length=cs.length) (h1:∀v∈vs,v.oneCell'=true)
   (hv:∀j (h:j<cs.length) v,vs[j]? =some v->FV M cs[j] v):FV M (.agg cs) (.agg vs.toArray)
 |pz:FV M .pz (.pointer none)
 |nfn:FV M .nfn .nilFunc
 |nmp:FV M .nmp (.map none)
 |sK:FV M .sK .nilIface
 |lit (a:Option Addr) (n k:Nat):FV M (.lit a n k) (.slice a n k)
def Cells(M:Hp)(B off:Nat)(cs:List AV):Prop:=∀j (h:j<cs.length),∃v,M B (off+j)=some v/\v.oneCell'=true/\FV M cs[j] v
def iq(M:Hp)(B off sz:Nat)(l:List AV):Prop:=∀i (h:i<l.length),l[i].cells.length=sz/\Cells M B (off+i*sz) l[i].cells
theorem FV.mono{M M':Hp}(hM:M.le M'){x:AV}{v:Value}(h:FV M x v):FV M' x v:=by
 induction h with
 |top v=>exact .top v
 |bool b=>exact .bool b
 |int k n=>exact .int k n
 |str s h=>exact .str s h
 |sl o l a k B off sz ho hk hl hf ha hz hm hv ih=>
  refine .sl o l a k B off sz ho hk hl hf ha hz (λi hi j hj=>let ⟨v,h1,h2⟩:=hm i hi j hj;⟨v,hM _ _ _ h1,h2⟩) (λi hi j hj v hv'=>?_);obtain⟨v0,h1,_⟩:=hm i hi j (by rw[<-hz i hi];exact hj)
  have:=hM _ _ _ h1;rw[this] at hv';cases hv'
  exact ih i hi j hj _ h1
 |agg cs vs hl h1 hv ih=>exact .agg cs vs hl h1 ih
 |pz=>exact .pz
 |nfn=>exact .nfn
 |nmp=>exact .nmp
 |sK=>exact .sK
 |lit a n k=>exact .lit a n k
theorem Cells.mono{M M':Hp}(hM:M.le M'){B off:Nat}{cs:List AV}(h:Cells M B off cs):Cells M' B off cs:=
 λj hj=>let ⟨v,h1,h2,h3⟩:=h j hj;⟨v,hM _ _ _ h1,h2,h3.mono hM⟩
theorem Cells.drop{M:Hp}{B off:Nat}{cs:List AV}(h:Cells M B off cs)(k:Nat):Cells M B (off+k) (cs.drop k):=λj hj=>by
 simp only[Zc] at hj;obtain⟨v,h1,h2,h3⟩:=h (k+j) (by omega)
 exact⟨v,by rw[Zh];exact h1,h2,by rw[Zv];exact h3⟩
theorem FV.lB{M:Hp}{o:Cap}{l:List AV}{a:Option Addr}{k B off sz:Nat}(ho:∀z,o≠.own z)(hk:l.length<=k)(hl:l.length<=lim)(hf:o=.full->k=l.length)
  (ha:l≠[]->a=some ⟨B,off,none⟩) (he:iq M B off sz l):FV M (.sl o l) (.slice a l.length k):=by
 refine .sl o l a k B off sz ho hk hl hf ha (λi h=>(he i h).1) (λi hi j hj=>?_) (λi hi j hj v hv=>?_)
 .obtain ⟨h1,h2⟩:=he i hi;obtain⟨v,h3,h4,_⟩:=h2 j (by omega)
  exact⟨v,h3,h4⟩
 .obtain ⟨h1,h2⟩:=he i hi;obtain⟨v',h3,_,h5⟩:=h2 j hj;rw[h3] at hv;cases hv;exact h5
theorem FV.dN{M:Hp}{o:Cap}{l:List AV}{v:Value}(h:FV M (.sl o l) v):
  ∃a k B off sz,v=.slice a l.length k/\(∀z,o≠.own z)/\l.length<=k/\l.length<=lim/\(o=.full->k=l.length)/\(l≠[]->a=some ⟨B,off,none⟩)/\iq M B off sz l:=by
 cases h with
 |sl _ _ a k B off sz ho hk hl hf ha hz hm hv=>
  refine⟨a,k,B,off,sz,rfl,ho,hk,hl,hf,ha,λi hi=>⟨hz i hi,λj hj=>?_⟩⟩;obtain⟨v,h1,h2⟩:=hm i hi j (by rw[<-hz i hi];exact hj)
  exact⟨v,h1,h2,hv i hi j hj v h1⟩
inductive RV (M:Hp) (σ:Nat->Nat) (n:Nat):AV->Value->Prop
 |flat {x:AV} {v:Value} (h:FV M x v):RV M σ n x v
 |agg (cs:List AV) (vs:List Value) (hl:vs.length=cs.length) (h1:∀v∈vs,v.oneCell'=true)
   (hv:∀j (h:j<cs.length) v,vs[j]? =some v->RV M σ n cs[j] v):RV M σ n (.agg cs) (.agg vs.toArray)
 |tup (cs:List AV) (vs:List Value) (hl:vs.length=cs.length)
   (hv:∀j (h:j<cs.length) v,vs[j]? =some v->RV M σ n cs[j] v):RV M σ n (.tup cs) (.tuple vs.toArray)
 |ptr (b off:Nat) (h:b<n):RV M σ n (.ptr b off) (.pointer (some ⟨σ b,off,none⟩))
 |ept (cs:List AV) (B off:Nat) (h:Cells M B off cs):RV M σ n (.ept cs) (.pointer (some ⟨B,off,none⟩))
 |fn (f:Fn) (xs ys:List AV) (us vs:List Value) (h1:us.length=xs.length) (h2:vs.length=ys.length)
   (hx:∀j (h:j<xs.length) v,us[j]? =some v->RV M σ n xs[j] v) (hy:∀j (h:j<ys.length) v,vs[j]? =some v->RV M σ n ys[j] v):
   RV M σ n (.fn f xs ys) (.func f us.toArray vs.toArray)
 |yl (b:Nat) (h:b<n):RV M σ n (.yl b) (.func (.yield (σ b)) #[] #[])
 |bsl (b m k:Nat) (a:Option Addr) (h:b<n) (hk:m<=k) (hl:m<=lim) (ha:k≠0->a=some ⟨σ b,0,none⟩):RV M σ n (.bsl b m k) (.slice a m k)
 |elp (b i z off:Nat) (h:b<n):RV M σ n (.elp b i z off) (.pointer (some ⟨σ b,i*z+off,none⟩))
 |mpt (b:Nat) (h:b<n):RV M σ n (.mpt b) (.map (some (σ b)))
theorem RV.mono{M M':Hp}(hM:M.le M'){σ σ':Nat->Nat}{n n':Nat}(hn:n<=n')(hσ:∀b,b<n->σ' b=σ b){x:AV}{v:Value}(h:RV M σ n x v):RV M' σ' n' x v:=by
 induction h with
 |flat h=>exact .flat (h.mono hM)
 |agg cs vs hl h1 _ ih=>exact .agg cs vs hl h1 ih
 |tup cs vs hl _ ih=>exact .tup cs vs hl ih
 |ptr b off h=>rw[<-hσ b h];exact .ptr b off (by omega)
 |ept cs B off h=>exact .ept cs B off (h.mono hM)
 |fn f xs ys us vs h1 h2 _ _ ih1 ih2=>exact .fn f xs ys us vs h1 h2 ih1 ih2
 |yl b h=>rw[<-hσ b h];exact .yl b (by omega)
 |bsl b m k a h hk hl ha=>exact .bsl b m k a (by omega) hk hl (by rw[hσ b h];exact ha)
 |elp b i z off h=>rw[<-hσ b h];exact .elp b i z off (by omega)
 |mpt b h=>rw[<-hσ b h];exact .mpt b (by omega)
section inv
variable{M:Hp}{σ:Nat->Nat}{n:Nat}{v:Value}
theorem RV.cB{b:Bool}(h:RV M σ n (.bool b) v):v=.bool b:=by cases h with|flat h=>cases h;rfl
theorem RV.aH{k:IntKind}{m:Int}(h:RV M σ n (.int k m) v):v=.int k m:=by cases h with|flat h=>cases h;rfl
theorem RV.cP{s:ByteArray}(h:RV M σ n (.str s) v):v=.string s/\s.size<=lim:=by cases h with|flat h=>cases h with|str _ h=>exact⟨rfl,h⟩
theorem RV.dN{o:Cap}{l:List AV}(h:RV M σ n (.sl o l) v):
  ∃a k B off sz,v=.slice a l.length k/\(∀z,o≠.own z)/\l.length<=k/\l.length<=lim/\(o=.full->k=l.length)/\(l≠[]->a=some ⟨B,off,none⟩)/\iq M B off sz l:=by
 cases h with|flat h=>exact h.dN
theorem RV.dw{cs:List AV}(h:RV M σ n (.agg cs) v):∃vs:List Value,v=.agg vs.toArray/\vs.length=cs.length/\(∀v∈vs,v.oneCell'=true)/\∀j (h:j<cs.length) v,vs[j]? =some v->RV M σ n cs[j] v:=by
 cases h with
 |flat h=>cases h with|agg _ vs hl h1 hv=>exact⟨vs,rfl,hl,h1,λj h v hj=>.flat (hv j h v hj)⟩
 |agg _ vs hl h1 hv=>exact⟨vs,rfl,hl,h1,hv⟩
theorem RV.qZ{cs:List AV}(h:RV M σ n (.tup cs) v):∃vs:List Value,v=.tuple vs.toArray/\vs.length=cs.length/\∀j (h:j<cs.length) v,vs[j]? =some v->RV M σ n cs[j] v:=by
 cases h with
 |flat h=>cases h
 |tup _ vs hl hv=>exact⟨vs,rfl,hl,hv⟩
theorem RV.iQ{b off:Nat}(h:RV M σ n (.ptr b off) v):v=.pointer (some ⟨σ b,off,none⟩)/\b<n:=by
 cases h with
 |flat h=>cases h
 |ptr _ _ h=>exact⟨rfl,h⟩
theorem RV.Cw{a:Option Addr}{m k:Nat}(h:RV M σ n (.lit a m k) v):v=.slice a m k:=by cases h with|flat h=>cases h;rfl
theorem RV.Cv(h:RV M σ n .nfn v):v=.nilFunc:=by cases h with|flat h=>cases h;rfl
theorem RV.oL{cs:List AV}(h:RV M σ n (.ept cs) v):∃B off,v=.pointer (some ⟨B,off,none⟩)/\Cells M B off cs:=by
 cases h with
 |flat h=>cases h
 |ept _ B off h=>exact⟨B,off,rfl,h⟩
theorem RV.pI{f:Fn}{xs ys:List AV}(h:RV M σ n (.fn f xs ys) v):∃us vs:List Value,v=.func f us.toArray vs.toArray/\us.length=xs.length/\vs.length=ys.length/\
  (∀j (h:j<xs.length) v,us[j]? =some v->RV M σ n xs[j] v)/\(∀j (h:j<ys.length) v,vs[j]? =some v->RV M σ n ys[j] v):=by
 cases h with
 |flat h=>cases h
 |fn _ _ _ us vs h1 h2 h3 h4=>exact⟨us,vs,rfl,h1,h2,h3,h4⟩
theorem RV.ER{b:Nat}(h:RV M σ n (.yl b) v):v=.func (.yield (σ b)) #[] #[]/\b<n:=by
 cases h with
 |flat h=>cases h
 |yl _ h=>exact⟨rfl,h⟩
theorem RV.c6{b m k:Nat}(h:RV M σ n (.bsl b m k) v):∃a,v=.slice a m k/\b<n/\m<=k/\m<=lim/\(k≠0->a=some ⟨σ b,0,none⟩):=by
 cases h with
 |flat h=>cases h
 |bsl _ _ _ a h hk hl ha=>exact⟨a,rfl,h,hk,hl,ha⟩
theorem RV.oM{b i z off:Nat}(h:RV M σ n (.elp b i z off) v):v=.pointer (some ⟨σ b,i*z+off,none⟩)/\b<n:=by
 cases h with
 |flat h=>cases h
 |elp _ _ _ _ h=>exact⟨rfl,h⟩
theorem RV.cr{b:Nat}(h:RV M σ n (.mpt b) v):v=.map (some (σ b))/\b<n:=by
 cases h with
 |flat h=>cases h
 |mpt _ h=>exact⟨rfl,h⟩
theorem RV.aW{x:AV}(h:RV M σ n x v)(hf:x.aW=true):FV M x v:=by
 cases h with
 |flat h=>exact h
 |agg=>simp[AV.aW] at hf
 |tup=>simp[AV.aW] at hf
 |ptr=>simp[AV.aW] at hf
 |ept=>simp[AV.aW] at hf
 |fn=>simp[AV.aW] at hf
 |yl=>simp[AV.aW] at hf
 |bsl=>simp[AV.aW] at hf
 |elp=>simp[AV.aW] at hf
 |mpt=>simp[AV.aW] at hf
theorem RV.FH{x:AV}(h:RV M σ n x v)(hf:x.flat=true):FV M x v:=by
 cases h with
 |flat h=>exact h
 |agg cs vs hl h1 hv=>
  simp only[AV.flat,zT] at hf
  exact .agg cs vs hl h1 λj hj v hjv=>(hv j hj v hjv).aW (hf _ (zc hj))
 |tup=>simp[AV.flat,AV.aW] at hf
 |ptr=>simp[AV.flat,AV.aW] at hf
 |ept=>simp[AV.flat,AV.aW] at hf
 |fn=>simp[AV.flat,AV.aW] at hf
 |yl=>simp[AV.flat,AV.aW] at hf
 |bsl=>simp[AV.flat,AV.aW] at hf
 |elp=>simp[AV.flat,AV.aW] at hf
 |mpt=>simp[AV.flat,AV.aW] at hf
theorem FV.aj{x:AV}(h:FV M x v):FV M x.aj v:=by
 cases h with
 |sl o l a k B off sz ho hk hl hf ha hz hm hv=>exact .sl .no l a k B off sz (λz e=>by cases e) hk hl (λe=>by cases e) ha hz hm hv
 |top v=>exact .top v
 |bool b=>exact .bool b
 |int k n=>exact .int k n
 |str s h=>exact .str s h
 |agg cs vs hl h1 hv=>exact .agg cs vs hl h1 hv
 |pz=>exact .pz
 |nfn=>exact .nfn
 |nmp=>exact .nmp
 |sK=>exact .sK
 |lit a n k=>exact .lit a n k
theorem RV.aj{x:AV}(h:RV M σ n x v):RV M σ n x.aj v:=by
 cases h with
 |flat h=>exact .flat h.aj
 |agg cs vs hl h1 hv=>exact .agg cs vs hl h1 hv
 |tup cs vs hl hv=>exact .tup cs vs hl hv
 |ptr b off h=>exact .ptr b off h
 |ept cs B off h=>exact .ept cs B off h
 |fn f xs ys us vs h1 h2 hx hy=>exact .fn f xs ys us vs h1 h2 hx hy
 |yl b h=>exact .yl b h
 |bsl b m k a h hk hl ha=>exact .bsl b m k a h hk hl ha
 |elp b i z off h=>exact .elp b i z off h
 |mpt b h=>exact .mpt b h
theorem RV.norm{x:AV}(h:RV M σ n x v):RV M σ n x.norm v:=by
 cases x with
 |agg cs=>
  obtain⟨vs,rfl,hl,h1,hv⟩:=h.dw;refine .agg _ vs (by simpa using hl) h1 λj hj v hjv=>?_
  simp only[zF] at hj;rw[ZD]
  exact(hv j hj v hjv).aj
 |_=>exact h.aj
theorem yS(x:AV):x.aF.aj=x.aj:=by
 cases x with
 |sl o l=>cases o<;>rfl
 |_=>rfl
theorem BK(x:AV):x.aF.norm=x.norm:=by
 cases x with
 |sl o l=>cases o<;>rfl
 |_=>rfl
theorem RV.b8{x:AV}(h:RV M σ n x v):x.aF=x:=by
 cases h with
 |flat h=>
  cases h with
  |sl o l a k B off sz ho=>cases o with
   |own z=>exact absurd rfl (ho z)
   |_=>rfl
  |_=>rfl
 |_=>rfl
theorem RV.lt0{x:AV}{m:Nat}(h:RV M σ n x v)(hf:x.lt0 m=true):RV M σ m x v:=by
 cases h with
 |flat h=>exact .flat h
 |ptr b off _=>exact .ptr b off (by simpa[AV.lt0] using hf)
 |agg=>simp[AV.lt0,AV.aW] at hf
 |tup=>simp[AV.lt0,AV.aW] at hf
 |ept cs B off h=>exact .ept cs B off h
 |fn=>simp[AV.lt0,AV.aW] at hf
 |yl b _=>exact .yl b (by simpa[AV.lt0] using hf)
 |bsl b m k a h hk hl ha=>exact .bsl b m k a (by simpa[AV.lt0] using hf) hk hl ha
 |elp b i z off _=>exact .elp b i z off (by simpa[AV.lt0] using hf)
 |mpt b _=>exact .mpt b (by simpa[AV.lt0] using hf)
theorem RV.lt1{x:AV}{m:Nat}(h:RV M σ n x v)(hf:x.lt1 m=true):RV M σ m x v:=by
 cases h with
 |fn f xs ys us vs h1 h2 hx hy=>
  simp only[AV.lt1,zD,zT] at hf
  exact .fn f xs ys us vs h1 h2 (λj hj v e=>(hx j hj v e).lt0 (hf.1 _ (zc hj))) (λj hj v e=>(hy j hj v e).lt0 (hf.2 _ (zc hj)))
 |flat h=>exact .flat h
 |ptr b off k=>exact(RV.ptr (M:=M) (σ:=σ) b off k).lt0 (by simpa[AV.lt1] using hf)
 |agg=>simp[AV.lt1,AV.lt0,AV.aW] at hf
 |tup=>simp[AV.lt1,AV.lt0,AV.aW] at hf
 |ept cs B off h=>exact .ept cs B off h
 |yl b k=>exact(RV.yl (M:=M) (σ:=σ) b k).lt0 (by simpa[AV.lt1] using hf)
 |bsl b q k a h hk hl ha=>exact(RV.bsl (M:=M) (σ:=σ) b q k a h hk hl ha).lt0 (by simpa[AV.lt1] using hf)
 |elp b i z off h=>exact(RV.elp (M:=M) (σ:=σ) b i z off h).lt0 (by simpa[AV.lt1] using hf)
 |mpt b h=>exact(RV.mpt (M:=M) (σ:=σ) b h).lt0 (by simpa[AV.lt1] using hf)
theorem RV.lt2{x:AV}{m:Nat}(h:RV M σ n x v)(hf:x.lt2 m=true):RV M σ m x v:=by
 cases x with
 |agg cs=>
  obtain⟨vs,rfl,hl,h1,hv⟩:=h.dw;simp only[AV.lt2,zT] at hf
  exact .agg cs vs hl h1 λj hj v e=>(hv j hj v e).lt1 (hf _ (zc hj))
 |_=>exact h.lt1 hf
theorem RV.lt{x:AV}{m:Nat}(h:RV M σ n x v)(hf:x.lt m=true):RV M σ m x v:=by
 cases h with
 |flat h=>exact .flat h
 |agg cs vs hl h1 hv=>
  simp only[AV.lt,zT] at hf
  exact .agg cs vs hl h1 λj hj v e=>(hv j hj v e).lt1 (hf _ (zc hj))
 |tup cs vs hl hv=>
  simp only[AV.lt,zT] at hf
  exact .tup cs vs hl λj hj v e=>(hv j hj v e).lt2 (hf _ (zc hj))
 |ptr b off k=>exact(RV.ptr (M:=M) (σ:=σ) b off k).lt1 (by simpa[AV.lt] using hf)
 |ept cs B off h=>exact .ept cs B off h
 |fn f xs ys us vs h1 h2 hx hy=>exact(RV.fn f xs ys us vs h1 h2 hx hy).lt1 (by simpa[AV.lt] using hf)
 |yl b k=>exact(RV.yl (M:=M) (σ:=σ) b k).lt1 (by simpa[AV.lt] using hf)
 |bsl b q k a h hk hl ha=>exact(RV.bsl (M:=M) (σ:=σ) b q k a h hk hl ha).lt1 (by simpa[AV.lt] using hf)
 |elp b i z off h=>exact(RV.elp (M:=M) (σ:=σ) b i z off h).lt1 (by simpa[AV.lt] using hf)
 |mpt b h=>exact(RV.mpt (M:=M) (σ:=σ) b h).lt1 (by simpa[AV.lt] using hf)
end inv
theorem ku(m:Nat)(x:AV):x.aF.lt m=x.lt m:=by
 cases x with
 |sl o l=>cases o<;>rfl
 |_=>rfl
end Go.AM
namespace Go.AM
open Go.CK Go.RowKit
structure LB where
 M:Hp
 σ:Nat->Nat
 n:Nat
 r:Loop
 mp:Option (List MapEntry×Nat):=none
 rows:List (Nat×Nat×Obj):=[]
def mZ:AV->Value
 |.bool b=>.bool b
 |.int k n=>.int k n
 |_=>.agg #[]
def vOf:AV->Value
 |.bool b=>.bool b
 |.int k n=>.int k n
 |.agg cs=>.agg (cs.map mZ).toArray
 |_=>.agg #[]
def kr:Nat->List (Int×AV)->List MapEntry
 |_,[]=>[]
 |i,(k,x)::l=>{key:=.int .i64 k,val:=vOf x,born:=i}::kr (i+1) l
def db(l:List (Int×AV)):Array MapEntry:=(kr 0 l).toArray
def LB.obj(x:LB):Obj:=match x.mp with
 |none=>.loop x.r
 |some (es,n)=>.map es.toArray n
def LB.rs(x:LB):List (Nat×Nat×Obj):=match x.mp with
 |none=>[]
 |some _=>x.rows
theorem LB.FO{x:LB}(h:x.mp=none):x.rs=[]:=by unfold LB.rs;rw[h]
theorem LB.oA{x:LB}(h:x.mp=none):x.obj=.loop x.r:=by unfold LB.obj;rw[h]
theorem LB.Bb(x:LB):x.obj.isCells=false:=by
 unfold LB.obj;cases x.mp<;>rfl
theorem LB.Bc(x:LB){d:Option (List Deferred)}(h:some (Obj.deferred d)=some x.obj):False:=by
 unfold LB.obj at h;cases hx:x.mp<;>rw[hx] at h<;>cases h
theorem LB.Ey(x:LB){vs:Array Value}{T:TypeId}{q:Nat×Nat}(h:some (Obj.cells vs T q)=some x.obj):False:=by
 have:=x.Bb;cases h':x.obj<;>rw[h'] at h this<;>first|(cases h;done)|cases this
def mLB(es:List MapEntry)(n:Nat):LB:=⟨λ_ _=>none,λ_=>0,0,default,some (es,n),[]⟩
def F7(l:List (Int×AV)):LB:=mLB (kr 0 l) l.length
def mqE(l:List (Int×AV×Nat)):List MapEntry:=l.map λe=>{key:=.int .i64 e.1,val:=vOf e.2.1,born:=e.2.2}
structure TB where
 es:List MapEntry
 c:Nat
 rows:List (Nat×Nat×Obj)
def TB.lb(x:TB):LB:=⟨λ_ _=>none,λ_=>0,0,default,some (x.es,x.c),x.rows⟩
inductive Box where
 |cells (cs:List AV)
 |dead
 |loop (x:LB)
 |row (cs:List AV)
 |mp (l:List (Int×AV))
 |mq (l:List (Int×AV×Nat)) (c:Nat)
 |tab (x:TB)
instance:Inhabited Box:=⟨.dead⟩
def au:List (Nat×AV)->Nat->Option AV
 |[],_=>none
 |(t,v)::r,k=>match Nat.beq t k with
  |true=>some v
  |false=>au r k
def aS:List (Nat×AV)->Nat->AV->List (Nat×AV)
 |[],k,v=>[(k,v)]
 |(t,u)::r,k,v=>match Nat.beq t k with
  |true=>(k,v)::r
  |false=>match Nat.blt k t with
   |true=>(k,v)::(t,u)::r
   |false=>(t,u)::aS r k v
def dU(f:Nat->Bool):List (Nat×AV)->List (Nat×AV)
 |[]=>[]
 |(t,v)::r=>match f t with
  |true=>(t,v)::dU f r
  |false=>dU f r
theorem cc{a b:Nat}(h:¬a=b):Nat.beq a b=false:=by
 cases hb:Nat.beq a b with
 |false=>rfl
 |true=>exact absurd (zP hb) h
theorem eJ:∀(e:List (Nat×AV)) (k:Nat) (v:AV) (j:Nat),au (aS e k v) j=if j=k then some v else au e j
 |[],k,v,j=>by
  simp only[aS,au]
  by_cases h:k=j
  .subst h;simp
  .rw [if_neg (λe=>h e.symm)];have:Nat.beq k j=false:=cc h
   rw[this]
 |(t,u)::r,k,v,j=>by
  simp only[aS]
  by_cases h:t=k
  .subst h;have:Nat.beq t t=true:=by simp
   rw[this];simp only[au]
   by_cases h2:t=j
   .subst h2;simp
   .have:Nat.beq t j=false:=cc h2;rw[this,if_neg (λe=>h2 e.symm)]
  .have hk:Nat.beq t k=false:=cc h;rw[hk];simp only
   cases hb:Nat.blt k t with
   |true=>
    simp only[au]
    by_cases h2:k=j
    .subst h2;simp
    .have:Nat.beq k j=false:=cc h2
     rw[this,if_neg (λe=>h2 e.symm)]
   |false=>
    simp only[au]
    by_cases h2:t=j
    .subst h2;have:Nat.beq t t=true:=by simp
     rw[this,if_neg h]
    .have:Nat.beq t j=false:=cc h2;rw[this];exact eJ r k v j
theorem mo(f:Nat->Bool):∀(e:List (Nat×AV)) (j:Nat) (v:AV),au (dU f e) j=some v->au e j=some v/\f j=true
 |[],j,v,h=>by cases h
 |(t,u)::r,j,v,h=>by
  simp only[dU] at h
  cases hf:f t with
  |true=>
   rw[hf] at h;simp only[au] at h|-
   cases hb:Nat.beq t j with
   |true=>rw[hb] at h;simp only at h;have:=zP hb;subst this;exact⟨h,hf⟩
   |false=>rw[hb] at h;exact mo f r j v h
  |false=>
   rw[hf] at h;simp only at h;obtain⟨h1,h2⟩:=mo f r j v h;simp only[au]
   cases hb:Nat.beq t j with
   |true=>have:=zP hb;subst this;rw[hf] at h2;cases h2
   |false=>exact⟨h1,h2⟩
structure St where
 env:List (Nat×AV)
 bs:List Box
 lo:Nat
inductive Pl where
 |sl (t:Nat)
 |bx (b j:Nat)
deriving DecidableEq
def Box.cs?:Box->Option (List AV)
 |.cells cs=>some cs
 |.row (c::cs)=>some (c::cs)
 |_=>none
def Box.lb?:Box->Option LB
 |.loop x=>some x
 |.mp l=>some (F7 l)
 |.mq l c=>some (mLB (mqE l) c)
 |.tab x=>some x.lb
 |_=>none
def aa(bs:List Box)(b:Nat):Option (List AV):=
 match bs[b]? with
 |some x=>x.cs?
 |none=>none
def ai(bs:List Box)(b:Nat):Option LB:=
 match bs[b]? with
 |some x=>x.lb?
 |none=>none
theorem i6(cs:List AV):(Box.row cs).cs? =if cs=[] then none else some cs:=by cases cs<;>rfl
def St.at(s:St):Pl->Option AV
 |.sl t=>au s.env t
 |.bx b j=>(aa s.bs b).bind (·[j]?)
def St.get(s:St)(t:Nat):AV:=match au s.env t with
 |some v=>v
 |none=>.top
def St.put(s:St)(d:Option Nat)(x:AV):St:=match d with
 |some k=>⟨aS s.env k x,s.bs,s.lo⟩
 |none=>s
def St.bn(s:St)(b:Nat)(cs:List AV):St:=⟨s.env,s.bs.set b (.cells cs),s.lo⟩
def St.upd(s:St)(p:Pl)(x:AV):St:=
 match p with
 |.sl t=>⟨aS s.env t x,s.bs,s.lo⟩
 |.bx b j=>match aa s.bs b with
  |some cs=>s.bn b (cs.set j x)
  |none=>s
theorem St.dB(s:St)(k:Nat)(x:AV)(p:Pl):(s.put (some k) x).at p=if p=.sl k then some x else s.at p:=by
 cases p with
 |sl t=>
  simp only[St.put,St.at,eJ]
  by_cases h:t=k
  .subst h;simp
  .rw [if_neg h,if_neg (by simpa using h)]
 |bx b j=>simp[St.put,St.at]
theorem cx{bs:List Box}{b:Nat}{cs:List AV}(h:aa bs b=some cs)(ds:List AV)(b':Nat):aa (bs.set b (.cells ds)) b'=if b'=b then some ds else aa bs b':=by
 have hb:b<bs.length:=by
  rcases zt b bs.length with h1|h1
  .exact h1
  .simp [aa,zS h1] at h
 simp only[aa,zq]
 by_cases e:b=b'
 .subst e;simp[hb,Box.cs?]
 .rw [if_neg e,if_neg (λx=>e x.symm)]
theorem aC{bs:List Box}{b:Nat}{cs:List AV}(h:aa bs b=some cs):b<bs.length:=by
 rcases zt b bs.length with h1|h1
 .exact h1
 .simp [aa,zS h1] at h
theorem aI(bs:List Box)(x:Box)(b:Nat):aa (bs++[x]) b=if b=bs.length then x.cs? else aa bs b:=by
 simp only[aa]
 by_cases h:b<bs.length
 .rw [zK h,if_neg (by omega)]
 .by_cases h2:b=bs.length
  .subst h2;simp
  .rw [if_neg h2,zS (by simp;omega),zS (by omega)]
structure Entry where
 FP:Nat->Prop
 M:Hp
 w:World
 nt:Nat
 nb:Nat
 σ0:Nat->Nat
 dd:List Deferred
structure Gh where
 M:Hp
 σ:Nat->Nat
 cl:Pl->Option Nat
def ay(σ:Nat->Nat)(a:Act)(w:World):Pl->Value
 |.sl t=>a.tmps.getD t undef
 |.bx b j=>(w.cell? ⟨σ b,j,none⟩).getD undef
def mark(D:Nat):Deferred:={target:=.collected D,args:=#[]}
def Spc(σ:Nat->Nat)(bs:List Box)(ds:List Deferred)(B:Nat)(o:Obj):Prop:=(∃b x,ai bs b=some x/\σ b=B/\o=x.obj)\/(mark B∈ds/\o=.deferred (some []))
structure Sp(FP:Nat->Prop)(w0:World)(M:Hp)(σ:Nat->Nat)(cl:Pl->Option Nat)(bs:List Box)(ds dd:List Deferred)(w:World):Prop where
 ob:∀B o,Spc σ bs ds B o->w.heap[B]? =some o/\(∀p,cl p≠some B)/\(FP B\/w0.heap.size<=B)
 base:∀b x,ai bs b=some x->x.M.le M/\x.n<=b/\∀c,c<x.n->σ c=x.σ c
 inj:∀b b' x x',ai bs b=some x->ai bs b'=some x'->σ b=σ b'->b=b'
 ds:∃Ds:List Nat,ds=Ds.map mark++dd/\ds.Nodup
 rows:∀b x,ai bs b=some x->∀j B o,(j,B,o)∈x.rs->w.heap[B]? =some o/\cl (.bx b j)=some B/\∀k,M B k=Option.none
theorem Spc.uY{σ:Nat->Nat}{bs:List Box}{ds:List Deferred}{B:Nat}{o:Obj}(h:Spc σ bs ds B o):o.isCells=false:=by
 rcases h with ⟨b,x,_,_,rfl⟩|⟨_,rfl⟩
 .exact x.Bb
 .rfl
theorem aL{bs:List Box}{b:Nat}{x:LB}(h:ai bs b=some x):b<bs.length:=by
 rcases zt b bs.length with h1|h1
 .exact h1
 .simp [ai,zS h1] at h
theorem uy{bs:List Box}{b:Nat}(h:(ai bs b).isSome=true):aa bs b=none:=by
 simp only[ai,aa] at h|-;split
 .rename_i x hx;rw[hx] at h;cases x<;>first|rfl|cases h
 .rfl
theorem xg{s:St}{b j:Nat}(h:(ai s.bs b).isSome=true):s.at (.bx b j)=none:=by
 simp only[St.at,uy h];rfl
theorem cU{b:Nat}{x:LB}(h:ai [] b=some x):False:=by simp[ai] at h
theorem Sp.none(FP:Nat->Prop)(w0:World)(M:Hp)(σ:Nat->Nat)(cl:Pl->Option Nat)(w:World):Sp FP w0 M σ cl [] [] [] w:=
 ⟨λB o h=>(by rcases h with ⟨b,x,hb,_⟩|⟨h,_⟩;exact(cU hb).elim;cases h),λb x hb=>(cU hb).elim,λb b' x x' hb=>(cU hb).elim,⟨[],rfl,.nil⟩,λb x hb=>(cU hb).elim⟩
theorem Sp.step{FP FP':Nat->Prop}{w0 w0':World}{M M':Hp}{σ σ':Nat->Nat}{cl cl':Pl->Option Nat}{bs bs':List Box}{ds dd:List Deferred}{w w':World}(h:Sp FP w0 M σ cl bs ds dd w)(hM:M.le M')(hσ:∀b,b<bs.length->σ' b=σ b)
  (hl:∀b x,ai bs' b=some x->ai bs b=some x) (hw:∀(B:Nat) (o:Obj),w.heap[B]? =some o->o.isCells=false->w'.heap[B]? =some o) (hcl:∀(B:Nat) (o:Obj),w.heap[B]? =some o->o.isCells=false->∀p,cl' p=some B->∃q,cl q=some B)
  (hm:∀B,FP B\/w0.heap.size<=B->FP' B\/w0'.heap.size<=B)
  (hr:∀b j B o,(ai bs b).isSome=true->cl (.bx b j)=some B->w.heap[B]? =some o->cl' (.bx b j)=some B/\w'.heap[B]? =some o/\((∀k,M B k=Option.none)->∀k,M' B k=Option.none):=by exact λ_ _ _ _ _ h1 h2=>⟨h1,h2,λh3=>h3⟩):Sp FP' w0' M' σ' cl' bs' ds dd w':=by
 refine⟨λB o hs=>?_,λb x hb=>?_,λb b' x x' hb hb' e=>?_,h.ds,λb x hb j B o hj=>?_⟩
 .have hs':Spc σ bs ds B o:=by
   rcases hs with ⟨b,x,hb,e,ho⟩|hs
   .have:=hl b x hb;exact .inl ⟨b,x,this,by rw[<-hσ b (aL this)];exact e,ho⟩
   .exact .inr hs
  obtain⟨h1,h2,h3⟩:=h.ob B o hs';refine⟨hw B o h1 hs'.uY,λp hp=>?_,hm B h3⟩;obtain⟨q,hq⟩:=hcl B o h1 hs'.uY p hp;exact h2 q hq
 .have hb':=hl b x hb;obtain⟨h1,h2,h3⟩:=h.base b x hb';have:=aL hb';exact⟨Hp.le_trans h1 hM,h2,λc hc=>(hσ c (by omega)).trans (h3 c hc)⟩
 .have h1:=hl b x hb;have h2:=hl b' x' hb';exact h.inj b b' x x' h1 h2 (by rw[<-hσ b (aL h1),<-hσ b' (aL h2)];exact e)
 .have h1:=hl b x hb;obtain⟨h2,h3,h4⟩:=h.rows b x h1 j B o hj;obtain⟨h5,h6,h7⟩:=hr b j B o (by rw[h1];rfl) h3 h2
  exact⟨h6,h5,h7 h4⟩
theorem Sp.loops{FP:Nat->Prop}{w0:World}{M:Hp}{σ:Nat->Nat}{cl:Pl->Option Nat}{bs bs':List Box}{ds dd:List Deferred}{w:World}(h:Sp FP w0 M σ cl bs ds dd w)(hl:∀b x,ai bs' b=some x->ai bs b=some x):Sp FP w0 M σ cl bs' ds dd w:=
 h.step (Hp.le_refl _) (λ_ _=>rfl) hl (λ_ _ k _=>k) (λ_ _ _ _ p k=>⟨p,k⟩) (λ_ k=>k)
theorem Ag{bs:List Box}{b:Nat}{cs:List AV}{c:Nat}{x:LB}(h:ai (bs.set b (.cells cs)) c=some x):ai bs c=some x:=by
 by_cases e:b=c
 .subst e
  by_cases hb:b<bs.length
  .simp [ai,hb] at h;cases h
  .simp [ai,hb] at h
 .simp only[ai,zq,if_neg e] at h;exact h
theorem dZ{bs:List Box}{y:Box}(hy:y.lb? =none){c:Nat}{x:LB}(h:ai (bs++[y]) c=some x):ai bs c=some x:=by
 simp only[ai] at h|-
 by_cases h1:c<bs.length
 .rwa [zK h1] at h
 .by_cases h2:c=bs.length
  .subst h2;simp[hy] at h
  .rw [zS (by simp;omega)] at h;cases h
structure Fr(FP:Nat->Prop)(M:Hp)(w:World)(M':Hp)(w':World):Prop where
 os:w'.os=w.os
 tape:w'.tape=w.tape
 output:w'.output=w.output
 size:w.heap.size<=w'.heap.size
 le:M.le M'
 heap:∀B,B<w.heap.size->¬FP B->w'.heap[B]? =w.heap[B]?
 mem:∀B,B<w.heap.size->¬FP B->∀o,M' B o=M B o
theorem Fr.refl(FP:Nat->Prop)(M:Hp)(w:World):Fr FP M w M w:=⟨rfl,rfl,rfl,zG _,Hp.le_refl _,λ_ _ _=>rfl,λ_ _ _ _=>rfl⟩
theorem Fr.trans{FP FP':Nat->Prop}{M M1 M2:Hp}{w w1 w2:World}(h:Fr FP M w M1 w1)(k:Fr FP' M1 w1 M2 w2)(hs:∀B,FP' B->FP B\/w.heap.size<=B):Fr FP M w M2 w2:=by
 refine⟨k.os.trans h.os,k.tape.trans h.tape,k.output.trans h.output,ZN h.size k.size,Hp.le_trans h.le k.le,λB hB hn=>?_,λB hB hn o=>?_⟩
 .have:¬FP' B:=λe=>by rcases hs B e with e|e;exact hn e;omega
  exact(k.heap B (by have:=h.size;omega) this).trans (h.heap B hB hn)
 .have:¬FP' B:=λe=>by rcases hs B e with e|e;exact hn e;omega
  exact(k.mem B (by have:=h.size;omega) this o).trans (h.mem B hB hn o)
structure Row(FP:Nat->Prop)(w0:World)(M:Hp)(w:World)(B sz n k:Nat):Prop where
 lt:n<k
 cells:∃(vs:Array Value) (T:TypeId),w.heap[B]? =some (.cells vs T (0,0))/\vs.size=k*sz
 free:∀o,n*sz<=o->M B o=none
 mine:FP B\/w0.heap.size<=B
structure RS(E:Entry)(G:Gh)(s:St)(a:Act)(w:World):Prop where
 fr:Fr E.FP E.M E.w G.M w
 ok:G.M.le (Hp.of w)
 nt:a.tmps.size=E.nt
 val:∀p x,s.at p=some x->RV G.M G.σ s.bs.length x.aF (ay G.σ a w p)
 one:∀b j x,s.at (.bx b j)=some x->(ay G.σ a w (.bx b j)).oneCell'=true
 box:∀b cs,aa s.bs b=some cs->∃(vs:Array Value) (T:TypeId),w.heap[G.σ b]? =some (.cells vs T (0,0))/\cs.length<=vs.size
 bmem:∀b cs,aa s.bs b=some cs->(∀o,G.M (G.σ b) o=none)/\(E.FP (G.σ b)\/E.w.heap.size<=G.σ b)
 inj:∀b b' cs cs',aa s.bs b=some cs->aa s.bs b'=some cs'->G.σ b=G.σ b'->b=b'
 own:∀p z l,s.at p=some (.sl (.own z) l)->∃ad k,ay G.σ a w p=.slice ad l.length k/\(∀y∈l,y.cells.length=z)/\(k=l.length\/∃B,G.cl p=some B/\ad=some ⟨B,0,none⟩/\Row E.FP E.w G.M w B z l.length k)
 clinj:∀p q B,G.cl p=some B->G.cl q=some B->p=q
 clbox:∀p B,G.cl p=some B->∀b cs,aa s.bs b=some cs->G.σ b≠B
 cllt:∀p B,G.cl p=some B->B<w.heap.size/\(E.FP B\/E.w.heap.size<=B)
 lo:s.lo=E.nb
 len:E.nb<=s.bs.length
 sig:∀b,b<E.nb->G.σ b=E.σ0 b
 sp:Sp E.FP E.w G.M G.σ G.cl s.bs a.defers E.dd w
section
variable{E:Entry}{G:Gh}{s:St}{a:Act}{w:World}
theorem RS.blt(h:RS E G s a w){b:Nat}{cs:List AV}(hb:aa s.bs b=some cs):G.σ b<w.heap.size:=by
 obtain⟨vs,T,h1,_⟩:=h.box b cs hb;rcases zt (G.σ b) w.heap.size with h2|h2
 .exact h2
 .rw [Zg (by omega)] at h1;cases h1
theorem cH{w w':World}{B:Nat}(h:w'.heap[B]? =w.heap[B]?)(o:Nat):w'.cell? ⟨B,o,none⟩=w.cell? ⟨B,o,none⟩:=by
 simp only[World.cell?,h]
theorem RS.o8(h:RS E G s a w){bs':List Box}(hc:∀b,aa bs' b=aa s.bs b)(hl:∀b,ai bs' b=ai s.bs b)(hn:bs'.length=s.bs.length):RS E G ⟨s.env,bs',s.lo⟩ a w:=by
 have hat:∀p,(⟨s.env,bs',s.lo⟩:St).at p=s.at p:=λp=>by
  cases p with
  |sl t=>rfl
  |bx b j=>simp only[St.at,hc]
 exact⟨h.fr,h.ok,h.nt,λp x hp=>by simp only[hn];exact h.val p x (by rw[<-hat];exact hp),λb j x hp=>h.one b j x (by rw[<-hat];exact hp),λb cs hb=>h.box b cs (by rw[<-hc];exact hb),λb cs hb=>h.bmem b cs (by rw[<-hc];exact hb),λb b' cs cs' hb hb'=>h.inj b b' cs cs' (by rw[<-hc];exact hb) (by rw[<-hc];exact hb'),λp z l hp=>h.own p z l (by rw[<-hat];exact hp),h.clinj,λp B hB b cs hb=>h.clbox p B hB b cs (by rw[<-hc];exact hb),h.cllt,h.lo,by simp only[hn];exact h.len,h.sig,h.sp.loops λb x hb=>by rw[<-hl];exact hb⟩
theorem RS.grow(h:RS E G s a w){M':Hp}{w':World}(hf:Fr (λ_=>False) G.M w M' w')(hok:M'.le (Hp.of w')):RS E {G with M:=M'} s a w':=by
 have hlt:∀B o v,G.M B o=some v->B<w.heap.size:=λB o v e=>Hp.lt h.ok e;have hmem:∀B,B<w.heap.size->∀o,M' B o=G.M B o:=λB hB o=>hf.mem B hB (λe=>e) o;have hheap:∀B,B<w.heap.size->w'.heap[B]? =w.heap[B]?:=λB hB=>hf.heap B hB (λe=>e)
 have hval:∀p x,s.at p=some x->ay G.σ a w' p=ay G.σ a w p:=λp x hx=>by
  cases p with
  |sl t=>rfl
  |bx b j=>
   simp only[St.at] at hx
   cases hb:aa s.bs b with
   |none=>rw[hb] at hx;cases hx
   |some cs=>simp only[ay];rw[cH (hheap _ (h.blt hb))]
 refine⟨h.fr.trans hf (λ_ e=>e.elim),hok,h.nt,λp x hx=>?_,λb j x hx=>?_,λb cs hb=>?_,λb cs hb=>?_,h.inj,λp z l hp=>?_,h.clinj,h.clbox,λp B hB=>?_,h.lo,h.len,h.sig,h.sp.step hf.le (λ_ _=>rfl) (λ_ _ k=>k) (λB o ho _=>(hheap B (zh.1 ho).1).trans ho) (λ_ _ _ _ p k=>⟨p,k⟩) (λ_ k=>k) (λb j B o _ h1 h2=>⟨h1,(hheap B (zh.1 h2).1).trans h2,λh3 k=>(hmem B (zh.1 h2).1 k).trans (h3 k)⟩)⟩
 .show RV M' G.σ _ _ (ay G.σ a w' p);rw[hval p x hx];exact(h.val p x hx).mono hf.le (zG _) (λ_ _=>rfl)
 .show (ay G.σ a w' _).oneCell'=true;rw[hval _ x hx];exact h.one b j x hx
 .obtain ⟨vs,T,h1,h2⟩:=h.box b cs hb;exact⟨vs,T,(hheap _ (h.blt hb)).trans h1,h2⟩
 .obtain ⟨h1,h2⟩:=h.bmem b cs hb;exact⟨λo=>(hmem _ (h.blt hb) o).trans (h1 o),h2⟩
 .obtain ⟨ad,k,h1,hz,h2⟩:=h.own p z l hp;refine⟨ad,k,(hval p _ hp).trans h1,hz,?_⟩;rcases h2 with h2|⟨B,hB,had,hrow⟩
  .exact .inl h2
  .have hB':=(h.cllt p B hB).1;obtain⟨vs,T,h3,h4⟩:=hrow.cells;exact .inr ⟨B,hB,had,hrow.lt,⟨vs,T,(hheap _ hB').trans h3,h4⟩,λo ho=>(hmem _ hB' o).trans (hrow.free o ho),hrow.mine⟩
 .obtain ⟨h1,h2⟩:=h.cllt p B hB;exact⟨ZS h1 hf.size,h2⟩
theorem RS.drew(h:RS E G s a w):RS E G s a {w with drawn:=w.drawn+1}:=
 h.grow (M':=G.M) ⟨rfl,rfl,rfl,zG _,Hp.le_refl _,λ_ _ _=>rfl,λ_ _ _ _=>rfl⟩ h.ok
theorem cE{σ:Nat->Nat}(a:Act)(w:World)(k:Nat)(v:Value)(p:Pl)(hk:k<a.tmps.size):ay σ (a.put (some k) v) w p=if p=.sl k then v else ay σ a w p:=by
 cases p with
 |sl t=>
  simp only[ay,Act.put]
  by_cases h:t=k
  .subst h;simp[hk]
  .rw [if_neg (by simpa using h)]
   simp[zW (Ne.symm h)]
 |bx b j=>simp[ay]
theorem RS.put(h:RS E G s a w){k:Nat}(hk:k<E.nt){x:AV}{v:Value}(hx:RV G.M G.σ s.bs.length x v):RS E G (s.put (some k) x) (a.put (some k) v) w:=by
 have hk':k<a.tmps.size:=by rw[h.nt];exact hk
 have hbs:(s.put (some k) x).bs=s.bs:=rfl;refine⟨h.fr,h.ok,?_,λp y hy=>?_,λb j y hy=>?_,h.box,h.bmem,h.inj,λp z l hp=>?_,h.clinj,h.clbox,h.cllt,h.lo,h.len,h.sig,h.sp⟩
 .simp [Act.put,h.nt]
 .rw [St.dB] at hy;rw[cE a w k v p hk']
  by_cases hp:p=.sl k
  .rw [if_pos hp] at hy|-;cases hy;rw[hx.b8];exact hx
  .rw [if_neg hp] at hy|-;exact h.val p y hy
 .rw [St.dB,if_neg (by simp)] at hy
  rw[cE a w k v _ hk',if_neg (by simp)]
  exact h.one b j y hy
 .rw [St.dB] at hp;rw[cE a w k v p hk']
  by_cases hpk:p=.sl k
  .rw [if_pos hpk] at hp;cases hp;have:=hx.b8;simp[AV.aF] at this
  .rw [if_neg hpk] at hp|-;exact h.own p z l hp
theorem RS.Hg(h:RS E G s a w){d:Option Nat}(hd:∀k,d=some k->k<E.nt){x:AV}{v:Value}(hx:RV G.M G.σ s.bs.length x v):RS E G (s.put d x) (a.put d v) w:=by
 cases d with
 |none=>exact h
 |some k=>exact h.put (hd k rfl) hx
theorem St.ef(s:St){q:Pl}{y:AV}(hq:s.at q=some y)(x:AV)(p:Pl):(s.upd q x).at p=if p=q then some x else s.at p:=by
 cases q with
 |sl t=>exact St.dB s t x p
 |bx b j=>
  simp only[St.at] at hq
  cases hb:aa s.bs b with
  |none=>rw[hb] at hq;cases hq
  |some cs=>
   rw[hb] at hq;simp only[ZG] at hq;simp only[St.upd,hb]
   cases p with
   |sl t=>simp[St.at,St.bn]
   |bx b' j'=>
    simp only[St.at,St.bn,cx hb]
    by_cases e:b'=b
    .subst e;rw[if_pos rfl];simp only[ZG,zq]
     have hj:j<cs.length:=by
      rcases zt j cs.length with h1|h1
      .exact h1
      .rw [zS h1] at hq;cases hq
     by_cases e2:j=j'
     .subst e2;simp[hj]
     .rw [if_neg e2,if_neg (by simpa using λx=>e2 x.symm),hb];rfl
    .rw [if_neg e,if_neg (by simp[e])]
theorem St.eM(s:St)(q:Pl)(x:AV):(s.upd q x).bs.length=s.bs.length:=by
 cases q with
 |sl t=>rfl
 |bx b j=>
  simp only[St.upd];cases aa s.bs b<;>simp[St.bn]
theorem St.o0(s:St)(q:Pl)(x:AV):(s.upd q x).lo=s.lo:=by
 cases q with
 |sl t=>rfl
 |bx b j=>
  simp only[St.upd];cases aa s.bs b<;>rfl
theorem St.bC(s:St)(q:Pl)(x:AV)(b:Nat)(cs:List AV)(h:aa (s.upd q x).bs b=some cs):∃ds,aa s.bs b=some ds/\ds.length=cs.length:=by
 cases q with
 |sl t=>exact⟨cs,h,rfl⟩
 |bx c j=>
  simp only[St.upd] at h
  cases hb:aa s.bs c with
  |none=>rw[hb] at h;exact⟨cs,h,rfl⟩
  |some es=>
   rw[hb] at h;simp only[St.bn,cx hb] at h
   by_cases e:b=c
   .subst e;rw[if_pos rfl] at h;cases h;exact⟨es,hb,by simp⟩
   .rw [if_neg e] at h;exact⟨cs,h,rfl⟩
theorem St.jO{s:St}{q:Pl}{x:AV}{b:Nat}{y:LB}(h:ai (s.upd q x).bs b=some y):ai s.bs b=some y:=by
 cases q with
 |sl t=>exact h
 |bx c j=>
  simp only[St.upd] at h
  cases hb:aa s.bs c with
  |none=>rw[hb] at h;exact h
  |some es=>rw[hb] at h;exact Ag h
theorem RS.upd(h:RS E G s a w){q:Pl}{y x:AV}(hq:s.at q=some y)(hx:RV G.M G.σ s.bs.length x (ay G.σ a w q)):RS E G (s.upd q x) a w:=by
 refine⟨h.fr,h.ok,h.nt,λp u hu=>?_,λb j u hu=>?_,λb cs hb=>?_,λb cs hb=>?_,λb b' cs cs' hb hb' e=>?_,λp z l hp=>?_,h.clinj,λp B hB b cs hb=>?_,h.cllt,(St.o0 s q x).trans h.lo,by rw[St.eM];exact h.len,h.sig,h.sp.loops λ_ _ k=>St.jO k⟩
 .rw [St.ef s hq] at hu;rw[St.eM]
  by_cases hp:p=q
  .rw [if_pos hp] at hu;cases hu;rw[hx.b8,hp];exact hx
  .rw [if_neg hp] at hu;exact h.val p u hu
 .rw [St.ef s hq] at hu
  by_cases hp:Pl.bx b j=q
  .rw [if_pos hp] at hu;exact h.one b j y (hp▸hq)
  .rw [if_neg hp] at hu;exact h.one b j u hu
 .obtain ⟨ds,h1,h2⟩:=s.bC q x b cs hb;obtain⟨vs,T,h3,h4⟩:=h.box b ds h1;exact⟨vs,T,h3,ZN (by omega) h4⟩
 .obtain ⟨ds,h1,h2⟩:=s.bC q x b cs hb;exact h.bmem b ds h1
 .obtain ⟨ds,h1,_⟩:=s.bC q x b cs hb;obtain⟨ds',h1',_⟩:=s.bC q x b' cs' hb';exact h.inj b b' ds ds' h1 h1' e
 .rw [St.ef s hq] at hp
  by_cases hpq:p=q
  .rw [if_pos hpq] at hp;cases hp;have:=hx.b8;simp[AV.aF] at this
  .rw [if_neg hpq] at hp;exact h.own p z l hp
 .obtain ⟨ds,h1,_⟩:=s.bC q x b cs hb;exact h.clbox p B hB b ds h1
theorem RS.move(h:RS E G s a w){p q:Pl}{z:Nat}{l:List AV}{o:Cap}(hpq:p≠q)(hp:s.at p=some (.sl (.own z) l))(hq:s.at q=some (.sl o l))
  (he:ay G.σ a w q=ay G.σ a w p):RS E {G with cl:=λr=>if r=q then G.cl p else if r=p then none else G.cl r} ((s.upd p (.sl .no l)).upd q (.sl (.own z) l)) a w:=by
 have hvp:=h.val p _ hp;have h1:RS E G (s.upd p (.sl .no l)) a w:=h.upd hp hvp;have hq1:(s.upd p (.sl .no l)).at q=some (.sl o l):=by rw[St.ef s hp,if_neg (Ne.symm hpq)];exact hq
 have hat:∀r,((s.upd p (.sl .no l)).upd q (.sl (.own z) l)).at r=if r=q then some (.sl (.own z) l) else if r=p then some (.sl .no l) else s.at r:=λr=>by
  rw[St.ef _ hq1,St.ef s hp]
 have hbox:∀b cs,aa ((s.upd p (.sl .no l)).upd q (.sl (.own z) l)).bs b=some cs->∃ds,aa s.bs b=some ds/\ds.length=cs.length:=λb cs hb=>by
  obtain⟨ds,h2,h3⟩:=St.bC _ q _ b cs hb;obtain⟨es,h4,h5⟩:=St.bC s p _ b ds h2;exact⟨es,h4,h5.trans h3⟩
 have hlen:((s.upd p (.sl .no l)).upd q (.sl (.own z) l)).bs.length=s.bs.length:=by rw[St.eM,St.eM]
 refine⟨h.fr,h.ok,h.nt,λr u hu=>?_,λb j u hu=>?_,λb cs hb=>?_,λb cs hb=>?_,λb b' cs cs' hb hb' e=>?_,λr z' l' hr=>?_,λr r' B hr hr'=>?_,λr B hB b cs hb=>?_,λr B hB=>?_,(St.o0 _ q _).trans ((St.o0 s p _).trans h.lo),by rw[hlen];exact h.len,h.sig,h.sp.step (Hp.le_refl _) (λ_ _=>rfl) (λ_ _ k=>St.jO (St.jO k)) (λ_ _ k _=>k) (λB _ _ _ r k=>?_) (λ_ k=>k) (λb j B o h1 h2 h3=>?_)⟩
 .rw [hat] at hu;rw[hlen]
  by_cases hr:r=q
  .rw [if_pos hr] at hu;cases hu;subst hr;rw[he];exact hvp
  .rw [if_neg hr] at hu
   by_cases hr2:r=p
   .rw [if_pos hr2] at hu;cases hu;subst hr2;exact hvp
   .rw [if_neg hr2] at hu;exact h.val r u hu
 .rw [hat] at hu
  by_cases hr:Pl.bx b j=q
  .exact h.one b j _ (hr▸hq)
  .rw [if_neg hr] at hu
   by_cases hr2:Pl.bx b j=p
   .exact h.one b j _ (hr2▸hp)
   .rw [if_neg hr2] at hu;exact h.one b j u hu
 .obtain ⟨ds,h2,h3⟩:=hbox b cs hb;obtain⟨vs,T,h4,h5⟩:=h.box b ds h2;exact⟨vs,T,h4,ZN (by omega) h5⟩
 .obtain ⟨ds,h2,h3⟩:=hbox b cs hb;exact h.bmem b ds h2
 .obtain ⟨ds,h2,h3⟩:=hbox b cs hb;obtain⟨ds',h2',h3'⟩:=hbox b' cs' hb';exact h.inj b b' ds ds' h2 h2' e
 .rw [hat] at hr
  by_cases hrq:r=q
  .rw [if_pos hrq] at hr;cases hr;obtain⟨ad,k,h2,hz,h3⟩:=h.own p z l hp;refine⟨ad,k,by rw[hrq];exact he.trans h2,hz,?_⟩
   rcases h3 with h3|⟨B,hB,h4,h5⟩
   .exact .inl h3
   .exact .inr ⟨B,by simp only[hrq,if_true];exact hB,h4,h5⟩
  .rw [if_neg hrq] at hr
   by_cases hrp:r=p
   .rw [if_pos hrp] at hr;cases hr
   .rw [if_neg hrp] at hr;obtain⟨ad,k,h2,hz,h3⟩:=h.own r z' l' hr;refine⟨ad,k,h2,hz,?_⟩;rcases h3 with h3|⟨B,hB,h4,h5⟩
    .exact .inl h3
    .exact .inr ⟨B,by simp only[hrq,hrp,if_false];exact hB,h4,h5⟩
 .simp only at hr hr'
  by_cases hrq:r=q
  .rw [if_pos hrq] at hr
   by_cases hrq':r'=q
   .rw [hrq,hrq']
   .rw [if_neg hrq'] at hr'
    by_cases hrp':r'=p
    .rw [if_pos hrp'] at hr';cases hr'
    .rw [if_neg hrp'] at hr';exact absurd (h.clinj _ _ B hr' hr) hrp'
  .rw [if_neg hrq] at hr
   by_cases hrp:r=p
   .rw [if_pos hrp] at hr;cases hr
   .rw [if_neg hrp] at hr
    by_cases hrq':r'=q
    .rw [if_pos hrq'] at hr';exact absurd (h.clinj _ _ B hr hr') hrp
    .rw [if_neg hrq'] at hr'
     by_cases hrp':r'=p
     .rw [if_pos hrp'] at hr';cases hr'
     .rw [if_neg hrp'] at hr';exact h.clinj _ _ B hr hr'
 .obtain ⟨ds,h2,h3⟩:=hbox b cs hb;simp only at hB
  by_cases hrq:r=q
  .rw [if_pos hrq] at hB;exact h.clbox p B hB b ds h2
  .rw [if_neg hrq] at hB
   by_cases hrp:r=p
   .rw [if_pos hrp] at hB;cases hB
   .rw [if_neg hrp] at hB;exact h.clbox r B hB b ds h2
 .simp only at hB
  by_cases hrq:r=q
  .rw [if_pos hrq] at hB;exact h.cllt p B hB
  .rw [if_neg hrq] at hB
   by_cases hrp:r=p
   .rw [if_pos hrp] at hB;cases hB
   .rw [if_neg hrp] at hB;exact h.cllt r B hB
 .simp only at k
  by_cases hrq:r=q
  .rw [if_pos hrq] at k;exact⟨p,k⟩
  .rw [if_neg hrq] at k
   by_cases hrp:r=p
   .rw [if_pos hrp] at k;cases k
   .rw [if_neg hrp] at k;exact⟨r,k⟩
 .have hnq:Pl.bx b j≠q:=λe=>by rw[<-e,xg h1] at hq;cases hq
  have hnp:Pl.bx b j≠p:=λe=>by rw[<-e,xg h1] at hp;cases hp
  exact⟨by simp only[if_neg hnq,if_neg hnp];exact h2,h3,λh4=>h4⟩
theorem RS.forget(h:RS E G s a w){s':St}{n:Nat}(hn:s'.bs.length=n)(hlo:s'.lo=s.lo)(hlon:s.lo<=n)(hat:∀p x,s'.at p=some x->s.at p=some x/\x.lt n=true)
  (hb:∀b cs,aa s'.bs b=some cs->aa s.bs b=some cs) (hbl:∀b x,ai s'.bs b=some x->ai s.bs b=some x):RS E G s' a w:=by
 subst hn;refine⟨h.fr,h.ok,h.nt,λp x hx=>?_,λb j x hx=>h.one b j x (hat _ _ hx).1,λb cs k=>h.box b cs (hb _ _ k),λb cs k=>h.bmem b cs (hb _ _ k),λb b' cs cs' k k'=>h.inj b b' cs cs' (hb _ _ k) (hb _ _ k'),λp z l hp=>h.own p z l (hat _ _ hp).1,h.clinj,λp B hB b cs k=>h.clbox p B hB b cs (hb _ _ k),h.cllt,hlo.trans h.lo,by rw[<-h.lo];exact hlon,h.sig,h.sp.loops hbl⟩
 obtain⟨h1,h2⟩:=hat p x hx;exact(h.val p x h1).lt (by rw[ku];exact h2)
theorem RS.bj(h:RS E G s a w){p:Pl}{l:List AV}(hp:s.at p=some (.sl .full l)){z:Nat}(hz:∀y∈l,y.cells.length=z):RS E G (s.upd p (.sl (.own z) l)) a w:=by
 have hv:=h.val p _ hp;simp only[AV.aF] at hv;refine⟨h.fr,h.ok,h.nt,λr u hu=>?_,λb j u hu=>?_,λb cs hb=>?_,λb cs hb=>?_,λb b' cs cs' hb hb' e=>?_,λr z' l' hr=>?_,h.clinj,λr B hB b cs hb=>?_,h.cllt,(St.o0 s p _).trans h.lo,by rw[St.eM];exact h.len,h.sig,h.sp.loops λ_ _ k=>St.jO k⟩
 .rw [St.ef s hp] at hu;rw[St.eM]
  by_cases hr:r=p
  .rw [if_pos hr] at hu;cases hu;rw[hr];exact hv.aj
  .rw [if_neg hr] at hu;exact h.val r u hu
 .rw [St.ef s hp] at hu
  by_cases hr:Pl.bx b j=p
  .exact h.one b j _ (hr▸hp)
  .rw [if_neg hr] at hu;exact h.one b j u hu
 .obtain ⟨ds,h1,h2⟩:=s.bC p _ b cs hb;obtain⟨vs,T,h3,h4⟩:=h.box b ds h1;exact⟨vs,T,h3,ZN (by omega) h4⟩
 .obtain ⟨ds,h1,h2⟩:=s.bC p _ b cs hb;exact h.bmem b ds h1
 .obtain ⟨ds,h1,_⟩:=s.bC p _ b cs hb;obtain⟨ds',h1',_⟩:=s.bC p _ b' cs' hb';exact h.inj b b' ds ds' h1 h1' e
 .rw [St.ef s hp] at hr
  by_cases hrp:r=p
  .rw [if_pos hrp] at hr;cases hr;obtain⟨ad,k,B,off,sz,h1,_,_,_,h2,_⟩:=hv.dN;exact⟨ad,k,by rw[hrp];exact h1,hz,.inl (h2 rfl)⟩
  .rw [if_neg hrp] at hr;exact h.own r z' l' hr
 .obtain ⟨ds,h1,_⟩:=s.bC p _ b cs hb;exact h.clbox r B hB b ds h1
end
end Go.AM
