/-
  Texts of this aV joined (wip/gen/bundle.py),those declarations only that are needed:Base AmV. By an AI agent.
-/
import Derived.WalkKit
import Derived.WalkSpells
import Derived.WalkLawsBesides
import Derived.Lib.Hide
import Derived.RangeFuncMany
set_option linter.unusedSimpArgs false
set_option linter.unusedVariables false
abbrev zA:=@List.getElem?_eq_getElem
abbrev zB:=@List.getElem?_eq_some_iff
abbrev zC:=@List.length_append
abbrev zD:=@Bool.and_eq_true
abbrev zE:=@List.mem_of_getElem?
abbrev zF:=@List.length_map
abbrev zG:=@Nat.le_refl
abbrev zH:=@List.drop_eq_getElem_cons
abbrev zI:=@List.mem_cons
abbrev zJ:=@Nat.zero_le
abbrev zK:=@List.getElem?_append_left
abbrev zL:=@List.eq_nil_of_length_eq_zero
abbrev zM:=@Option.map_some
abbrev zO:=@Option.some.injEq
abbrev zP:=@Nat.eq_of_beq_eq_true
abbrev zQ:=@List.map_cons
abbrev zR:=@List.mem_cons_of_mem
abbrev zS:=@List.getElem?_eq_none
abbrev zT:=@List.all_eq_true
abbrev zU:=@Array.getD_eq_getD_getElem?
abbrev zV:=@List.length_singleton
abbrev zW:=@List.mem_cons_self
abbrev zX:=@Array.getElem?_setIfInBounds_ne
abbrev zY:=@List.length_cons
abbrev zZ:=@List.mem_append
abbrev za:=@List.getElem?_append_right
abbrev zb:=@Bool.true_and
abbrev zc:=@Bool.not_eq_true'
abbrev zd:=@List.getElem_mem
abbrev ze:=@List.mem_range
abbrev zf:=@List.cons_append
abbrev zg:=@List.length_replicate
abbrev zh:=@List.append_assoc
abbrev zi:=@Array.getElem?_eq_some_iff
abbrev zj:=@Array.getElem?_eq_getElem
abbrev zk:=@List.drop_length
abbrev zl:=@List.mem_map
abbrev zm:=@List.take_of_length_le
abbrev zn:=@List.length_set
abbrev zo:=@List.length_take
abbrev zp:=@List.mem_filter
abbrev zq:=@List.mem_singleton
abbrev zr:=@List.getElem?_set
abbrev zt:=@Nat.le_of_ble_eq_true
abbrev zu:=@Nat.lt_or_ge
abbrev zw:=@List.map_append
abbrev zy:=@Bool.false_and
abbrev zz:=@List.append_nil
abbrev ZA:=@List.take_length
abbrev ZB:=@List.pairwise_cons
abbrev ZC:=@List.mem_append_left
abbrev ZD:=@List.take_add_one
abbrev ZE:=@List.getElem_map
abbrev ZF:=@Nat.mul_le_mul_right
abbrev ZG:=@List.getElem?_map
abbrev ZH:=@Option.bind_some
abbrev ZI:=@List.getElem_append_left
abbrev ZJ:=@Nat.zero_add
abbrev ZK:=@Array.length_toList
abbrev ZL:=@List.getElem?_eq_none_iff
abbrev ZM:=@List.take_zero
abbrev ZN:=@Nat.add_mul
abbrev ZO:=@Bool.or_eq_true
abbrev ZP:=@Nat.le_trans
abbrev ZQ:=@Array.all_eq_true_iff_forall_mem
abbrev ZR:=@List.length_nil
abbrev ZS:=@List.getElem_cons_zero
abbrev ZT:=@List.getElem?_of_mem
abbrev ZU:=@Option.getD_some
abbrev ZV:=@Nat.lt_of_lt_of_le
abbrev ZW:=@List.mem_append_right
abbrev ZX:=@List.mem_map_of_mem
abbrev ZY:=@List.length_eq_zero_iff
abbrev ZZ:=@List.getElem_append_right
abbrev Za:=@Bool.false_eq_true
abbrev Zb:=@List.mem_replicate
abbrev Zc:=@List.mem_iff_getElem
abbrev Zd:=@List.getElem?_take
abbrev Ze:=@List.map_nil
abbrev Zf:=@List.nodup_cons
abbrev Zg:=@List.length_drop
abbrev Zh:=@List.getElem?_set_ne
abbrev Zi:=@Nat.add_zero
abbrev Zj:=@List.getElem_cons_succ
abbrev Zk:=@Array.getElem?_eq_none
abbrev Zl:=@List.nil_append
abbrev Zm:=@Nat.not_lt_zero
abbrev Zn:=@Nat.add_assoc
abbrev Zo:=@List.getElem?_cons_zero
abbrev Zp:=@List.filter_congr
abbrev Zq:=@Int.toNat_natCast
abbrev Zr:=@List.ext_getElem?
abbrev Zs:=@List.getElem_take
abbrev Zt:=@List.getElem_of_mem
abbrev Zu:=@Nat.div_lt_iff_lt_mul
abbrev Zv:=@List.filter_cons_of_neg
abbrev Zw:=@List.getElem_replicate
abbrev Zx:=@Option.isSome_none
abbrev Zy:=@List.foldl_cons
abbrev Zz:=@Nat.zero_lt_one
abbrev yA:=@List.cons.injEq
abbrev yB:=@List.length_filter_le
abbrev yC:=@List.getElem_drop
abbrev yD:=@Nat.le_add_right
abbrev yE:=@Nat.sub_zero
abbrev yF:=@List.filter_eq_self
abbrev yG:=@List.take_succ_cons
abbrev yH:=@List.toList_toArray
abbrev yI:=@Array.getElem?_replicate
abbrev yJ:=@Option.isSome_iff_exists
abbrev yK:=@Nat.div_add_mod
abbrev yL:=@Nat.min_eq_left
abbrev yM:=@Option.map_none
abbrev yN:=@Option.some.inj
abbrev yO:=@List.filter_append
abbrev yP:=@List.filter_cons_of_pos
abbrev yQ:=@Nat.one_mul
abbrev yR:=@Nat.sub_self
abbrev yS:=@List.pairwise_lt_range
abbrev yT:=@Nat.mul_comm
abbrev yU:=@List.drop_zero
abbrev yV:=@List.set_append_right
abbrev yW:=@List.getElem?_toArray
abbrev yX:=@Nat.mod_lt
abbrev yY:=@List.not_mem_nil
abbrev yZ:=@Go.Result.andThen_ok
abbrev ya:=@Go.Sem.run_bind
abbrev yb:=@Go.Sem.run_pure
namespace Go.CK
open Go.RowKit
/-- what a string or a slice may hold; glim: what a call may build -/
def lim : Nat := 9223372036854775807
def glim : Nat := 4294967296
theorem glim_le {n : Nat} (h : n ≤ glim) : n ≤ lim := by unfold glim at h; unfold lim; omega
def cz(n:Int):Prop:=-9223372036854775808<=n/\n<=9223372036854775807
theorem cz.wf{n:Int}(h:cz n):(Lit.int .i64 n).wf=true:=WalkArith.wf_i64 h
theorem cz.Lm{n:Int}(h:(Lit.int .i64 n).wf=true):cz n:=by
 simpa[Lit.wf,IntKind.min,IntKind.max,IntKind.signed,IntKind.bits,cz] using h
structure Ext(w w':World):Prop where
 bel:Below w.heap.size w w'
theorem Ext.refl(w:World):Ext w w:=⟨Below.refl _ _⟩
theorem Ext.size{w w':World}(h:Ext w w'):w.heap.size<=w'.heap.size:=h.bel.size
theorem Ext.alloc{a b:World}(h:Ext a b)(o:Obj):Ext a (b.alloc o):=⟨h.bel.alloc h.size o⟩
theorem Ext.cell{a b:World}(h:Ext a b){p:Addr}{v:Value}(hv:a.cell? p=some v):b.cell? p=some v:=by
 rw[h.bel.cell (World.block_lt_of_cell? a p hv)];exact hv
abbrev Hp:=Nat->Nat->Option Value
def Hp.le(H H':Hp):Prop:=∀b o v,H b o=some v->H' b o=some v
def Hp.of(w:World):Hp:=λb o=>w.cell? ⟨b,o,none⟩
def Hp.plus(H:Hp)(w w':World):Hp:=λb o=>if w.heap.size<=b then w'.cell? ⟨b,o,none⟩ else H b o
def Hp.row(H:Hp)(w w':World)(v:Value):Hp:=λb o=>if v.ownBlock=some b then none else H.plus w w' b o
theorem Hp.le_refl(H:Hp):H.le H:=λ_ _ _ h=>h
theorem Hp.le_trans{A B C:Hp}(h:A.le B)(k:B.le C):A.le C:=λ_ _ _ x=>k _ _ _ (h _ _ _ x)
theorem Hp.lt{H:Hp}{w:World}(h:H.le (Hp.of w)){b o:Nat}{v:Value}(hv:H b o=some v):b<w.heap.size:=World.block_lt_of_cell? w _ (h _ _ _ hv)
theorem Hp.Kt{w w':World}(h:Ext w w'):(Hp.of w).le (Hp.of w'):=λ_ _ _ x=>h.cell x
theorem Hp.ext{H:Hp}{w w':World}(hH:H.le (Hp.of w))(h:Ext w w'):H.le (Hp.of w'):=Hp.le_trans hH (Hp.Kt h)
structure Sl{α:Type}(H:Hp)(sz:Nat)(R:List Value->α->Prop)(a:Option Addr)(l:List α):Prop where
 le:l.length<=lim
 at_:∀i (h:i<l.length),∃b o cs,a=some ⟨b,o,none⟩/\cs.length=sz/\(∀j x,cs[j]? =some x->H b (o+i*sz+j)=some x)/\R cs l[i]
theorem Sl.nil{α:Type}{H:Hp}{sz:Nat}{R:List Value->α->Prop}{a:Option Addr}:Sl H sz R a ([]:List α):=⟨by simp,λi hi=>by cases hi⟩
theorem Sl.addr{α:Type}{H:Hp}{sz:Nat}{R:List Value->α->Prop}{a:Option Addr}{l:List α}(h:Sl H sz R a l)(hl:0<l.length):∃b o,a=some ⟨b,o,none⟩:=
 let ⟨b,o,_,h1,_⟩:=h.at_ 0 hl;⟨b,o,h1⟩
section
variable{α:Type}{H:Hp}{w0 w:World}{e:TypeId}{sz:Nat}{R:Hp->List Value->α->Prop}{v:Value}{l:List α}
end
section
variable{α:Type}{H:Hp}{w0 w:World}{e:TypeId}{sz:Nat}{R:Hp->List Value->α->Prop}{l:List α}{g cap:Nat}
end
theorem uF(w:World)(b j b' j':Nat)(v:Value):(w.setCell ⟨b,j,none⟩ v).cell? ⟨b',j',none⟩=if b=b'/\j=j' then (if (w.cell? ⟨b,j,none⟩).isSome then some v else none) else w.cell? ⟨b',j',none⟩:=by
 split
 .rename_i h;obtain⟨rfl,rfl⟩:=h;split
  .rename_i hs;exact World.cell?_setCell_same' _ _ _ hs
  .rename_i hs;have hn:w.cell? ⟨b,j,none⟩=none:=by simpa using hs
   cases hq:(w.setCell ⟨b,j,none⟩ v).cell? ⟨b,j,none⟩ with
   |none=>rfl
   |some u=>
    exfalso;revert hq;simp only[World.cell?,World.setCell,Array.getElem?_modify] at hn|-
    cases hb:w.heap[b]? with
    |none=>simp
    |some o=>
     rw[hb] at hn;cases o<;>simp_all
 .rename_i h;exact World.cell?_setCell_other _ _ _ _ (by simp;exact λe=>λf=>h ⟨e,f⟩)
end Go.CK
namespace Go.AM
open Go.CK Go.RowKit
inductive Cap where
 |no
 |full
 |own (sz:Nat)
deriving DecidableEq
inductive AV where
 |top
 |bool (b:Bool)
 |int (k:IntKind) (n:Int)
 |str (s:ByteArray)
 |sl (o:Cap) (l:List AV)
 |agg (cs:List AV)
 |tup (vs:List AV)
 |ptr (b off:Nat)
 |cU
 |ept (cs:List AV)
 |fn (f:Fn) (first caps:List AV)
 |yl (b:Nat)
 |bsl (b m k:Nat)
 |elp (b i z off:Nat)
 |mpt (b:Nat)
 |nfn
 |nmp
 |tH
 |lit (a:Option Addr) (n k:Nat)
deriving Inhabited
namespace AV
def cells:AV->List AV
 |.agg cs=>cs
 |v=>[v]
def isAgg:AV->Bool
 |.agg _=>true
 |_=>false
def aG:AV->AV
 |.sl (.own _) l=>.sl .no l
 |v=>v
def aU:AV->Bool
 |.top|.bool _|.int .. |.str _|.cU|.nfn|.nmp|.tH|.lit .. =>true
 |.sl (.own _) _=>false
 |.sl _ _=>true
 |_=>false
def flat:AV->Bool
 |.agg cs=>cs.all aU
 |v=>v.aU
def bG:AV->AV
 |.sl _ l=>.sl .no l
 |v=>v
def norm:AV->AV
 |.agg cs=>.agg (cs.map bG)
 |v=>v.bG
def lt0(n:Nat):AV->Bool
 |.ptr b _=>decide (b<n)
 |.yl b=>decide (b<n)
 |.bsl b _ _=>decide (b<n)
 |.elp b _ _ _=>decide (b<n)
 |.mpt b=>decide (b<n)
 |.ept _=>true
 |v=>v.aU
def lt1(n:Nat):AV->Bool
 |.fn _ xs ys=>xs.all (lt0 n)&&ys.all (lt0 n)
 |v=>v.lt0 n
def lt2(n:Nat):AV->Bool
 |.agg cs=>cs.all (lt1 n)
 |v=>v.lt1 n
def lt(n:Nat):AV->Bool
 |.agg cs=>cs.all (lt1 n)
 |.tup cs=>cs.all (lt2 n)
 |.ept _=>true
 |.sl _ _=>true
 |v=>v.lt1 n
end AV
inductive FV (M:Hp):AV->Value->Prop
 |top (v:Value):FV M .top v
 |bool (b:Bool):FV M (.bool b) (.bool b)
 |int (k:IntKind) (n:Int):FV M (.int k n) (.int k n)
 |str (s:ByteArray) (h:s.size<=lim):FV M (.str s) (.string s)
 |sl (o:Cap) (l:List AV) (a:Option Addr) (k B off sz:Nat) (ho:∀z,o≠.own z) (hk:l.length<=k) (hl:l.length<=lim) (hf:o=.full->k=l.length)
   (ha:l≠[]->a=some ⟨B,off,none⟩) (hz:∀i (h:i<l.length),l[i].cells.length=sz)
   (hm:∀i,i<l.length->∀j,j<sz->∃v,M B (off+i*sz+j)=some v/\v.oneCell'=true)
   (hv:∀i (h:i<l.length) j (hj:j<l[i].cells.length) v,M B (off+i*sz+j)=some v->FV M (l[i].cells[j]) v):FV M (.sl o l) (.slice a l.length k)
 |agg (cs:List AV) (vs:List Value) (hl:vs.length=cs.length) (h1:∀v∈vs,v.oneCell'=true)
   (hv:∀j (h:j<cs.length) v,vs[j]? =some v->FV M cs[j] v):FV M (.agg cs) (.agg vs.toArray)
 |cU:FV M .cU (.pointer none)
 |nfn:FV M .nfn .nilFunc
 |nmp:FV M .nmp (.map none)
 |tH:FV M .tH .nilIface
 |lit (a:Option Addr) (n k:Nat):FV M (.lit a n k) (.slice a n k)
def Cells(M:Hp)(B off:Nat)(cs:List AV):Prop:=∀j (h:j<cs.length),∃v,M B (off+j)=some v/\v.oneCell'=true/\FV M cs[j] v
def fV(M:Hp)(B off sz:Nat)(l:List AV):Prop:=∀i (h:i<l.length),l[i].cells.length=sz/\Cells M B (off+i*sz) l[i].cells
theorem FV.mono{M M':Hp}(hM:M.le M'){x:AV}{v:Value}(h:FV M x v):FV M' x v:=by
 induction h with
 |top v=>exact .top v
 |bool b=>exact .bool b
 |int k n=>exact .int k n
 |str s h=>exact .str s h
 |sl o l a k B off sz ho hk hl hf ha hz hm hv ih=>
  refine .sl o l a k B off sz ho hk hl hf ha hz (λi hi j hj=>let ⟨v,h1,h2⟩:=hm i hi j hj;⟨v,hM _ _ _ h1,h2⟩) (λi hi j hj v hv'=>?_);obtain⟨v0,h1,_⟩:=hm i hi j (by rw[<-hz i hi];exact hj)
  have:=hM _ _ _ h1;rw[this] at hv';cases hv'
  exact ih i hi j hj _ h1
 |agg cs vs hl h1 hv ih=>exact .agg cs vs hl h1 ih
 |cU=>exact .cU
 |nfn=>exact .nfn
 |nmp=>exact .nmp
 |tH=>exact .tH
 |lit a n k=>exact .lit a n k
theorem Cells.mono{M M':Hp}(hM:M.le M'){B off:Nat}{cs:List AV}(h:Cells M B off cs):Cells M' B off cs:=
 λj hj=>let ⟨v,h1,h2,h3⟩:=h j hj;⟨v,hM _ _ _ h1,h2,h3.mono hM⟩
theorem Cells.drop{M:Hp}{B off:Nat}{cs:List AV}(h:Cells M B off cs)(k:Nat):Cells M B (off+k) (cs.drop k):=λj hj=>by
 simp only[Zg] at hj;obtain⟨v,h1,h2,h3⟩:=h (k+j) (by omega)
 exact⟨v,by rw[Zn];exact h1,h2,by rw[yC];exact h3⟩
theorem FV.gl{M:Hp}{o:Cap}{l:List AV}{a:Option Addr}{k B off sz:Nat}(ho:∀z,o≠.own z)(hk:l.length<=k)(hl:l.length<=lim)(hf:o=.full->k=l.length)
  (ha:l≠[]->a=some ⟨B,off,none⟩) (he:fV M B off sz l):FV M (.sl o l) (.slice a l.length k):=by
 refine .sl o l a k B off sz ho hk hl hf ha (λi h=>(he i h).1) (λi hi j hj=>?_) (λi hi j hj v hv=>?_)
 .obtain ⟨h1,h2⟩:=he i hi;obtain⟨v,h3,h4,_⟩:=h2 j (by omega)
  exact⟨v,h3,h4⟩
 .obtain ⟨h1,h2⟩:=he i hi;obtain⟨v',h3,_,h5⟩:=h2 j hj;rw[h3] at hv;cases hv;exact h5
theorem FV.cq{M:Hp}{o:Cap}{l:List AV}{v:Value}(h:FV M (.sl o l) v):
  ∃a k B off sz,v=.slice a l.length k/\(∀z,o≠.own z)/\l.length<=k/\l.length<=lim/\(o=.full->k=l.length)/\(l≠[]->a=some ⟨B,off,none⟩)/\fV M B off sz l:=by
 cases h with
 |sl _ _ a k B off sz ho hk hl hf ha hz hm hv=>
  refine⟨a,k,B,off,sz,rfl,ho,hk,hl,hf,ha,λi hi=>⟨hz i hi,λj hj=>?_⟩⟩;obtain⟨v,h1,h2⟩:=hm i hi j (by rw[<-hz i hi];exact hj)
  exact⟨v,h1,h2,hv i hi j hj v h1⟩
inductive RV (M:Hp) (σ:Nat->Nat) (n:Nat):AV->Value->Prop
 |flat {x:AV} {v:Value} (h:FV M x v):RV M σ n x v
 |agg (cs:List AV) (vs:List Value) (hl:vs.length=cs.length) (h1:∀v∈vs,v.oneCell'=true)
   (hv:∀j (h:j<cs.length) v,vs[j]? =some v->RV M σ n cs[j] v):RV M σ n (.agg cs) (.agg vs.toArray)
 |tup (cs:List AV) (vs:List Value) (hl:vs.length=cs.length)
   (hv:∀j (h:j<cs.length) v,vs[j]? =some v->RV M σ n cs[j] v):RV M σ n (.tup cs) (.tuple vs.toArray)
 |ptr (b off:Nat) (h:b<n):RV M σ n (.ptr b off) (.pointer (some ⟨σ b,off,none⟩))
 |ept (cs:List AV) (B off:Nat) (h:Cells M B off cs):RV M σ n (.ept cs) (.pointer (some ⟨B,off,none⟩))
 |fn (f:Fn) (xs ys:List AV) (us vs:List Value) (h1:us.length=xs.length) (h2:vs.length=ys.length)
   (hx:∀j (h:j<xs.length) v,us[j]? =some v->RV M σ n xs[j] v) (hy:∀j (h:j<ys.length) v,vs[j]? =some v->RV M σ n ys[j] v):
   RV M σ n (.fn f xs ys) (.func f us.toArray vs.toArray)
 |yl (b:Nat) (h:b<n):RV M σ n (.yl b) (.func (.yield (σ b)) #[] #[])
 |bsl (b m k:Nat) (a:Option Addr) (h:b<n) (hk:m<=k) (hl:m<=glim) (ha:k≠0->a=some ⟨σ b,0,none⟩):RV M σ n (.bsl b m k) (.slice a m k)
 |elp (b i z off:Nat) (h:b<n):RV M σ n (.elp b i z off) (.pointer (some ⟨σ b,i*z+off,none⟩))
 |mpt (b:Nat) (h:b<n):RV M σ n (.mpt b) (.map (some (σ b)))
theorem RV.mono{M M':Hp}(hM:M.le M'){σ σ':Nat->Nat}{n n':Nat}(hn:n<=n')(hσ:∀b,b<n->σ' b=σ b){x:AV}{v:Value}(h:RV M σ n x v):RV M' σ' n' x v:=by
 induction h with
 |flat h=>exact .flat (h.mono hM)
 |agg cs vs hl h1 _ ih=>exact .agg cs vs hl h1 ih
 |tup cs vs hl _ ih=>exact .tup cs vs hl ih
 |ptr b off h=>rw[<-hσ b h];exact .ptr b off (by omega)
 |ept cs B off h=>exact .ept cs B off (h.mono hM)
 |fn f xs ys us vs h1 h2 _ _ ih1 ih2=>exact .fn f xs ys us vs h1 h2 ih1 ih2
 |yl b h=>rw[<-hσ b h];exact .yl b (by omega)
 |bsl b m k a h hk hl ha=>exact .bsl b m k a (by omega) hk hl (by rw[hσ b h];exact ha)
 |elp b i z off h=>rw[<-hσ b h];exact .elp b i z off (by omega)
 |mpt b h=>rw[<-hσ b h];exact .mpt b (by omega)
section inv
variable{M:Hp}{σ:Nat->Nat}{n:Nat}{v:Value}
theorem RV.dm{b:Bool}(h:RV M σ n (.bool b) v):v=.bool b:=by cases h with|flat h=>cases h;rfl
theorem RV.aA{k:IntKind}{m:Int}(h:RV M σ n (.int k m) v):v=.int k m:=by cases h with|flat h=>cases h;rfl
theorem RV.cG{s:ByteArray}(h:RV M σ n (.str s) v):v=.string s/\s.size<=lim:=by cases h with|flat h=>cases h with|str _ h=>exact⟨rfl,h⟩
theorem RV.cq{o:Cap}{l:List AV}(h:RV M σ n (.sl o l) v):
  ∃a k B off sz,v=.slice a l.length k/\(∀z,o≠.own z)/\l.length<=k/\l.length<=lim/\(o=.full->k=l.length)/\(l≠[]->a=some ⟨B,off,none⟩)/\fV M B off sz l:=by
 cases h with|flat h=>exact h.cq
theorem RV.dR{cs:List AV}(h:RV M σ n (.agg cs) v):∃vs:List Value,v=.agg vs.toArray/\vs.length=cs.length/\(∀v∈vs,v.oneCell'=true)/\∀j (h:j<cs.length) v,vs[j]? =some v->RV M σ n cs[j] v:=by
 cases h with
 |flat h=>cases h with|agg _ vs hl h1 hv=>exact⟨vs,rfl,hl,h1,λj h v hj=>.flat (hv j h v hj)⟩
 |agg _ vs hl h1 hv=>exact⟨vs,rfl,hl,h1,hv⟩
theorem RV.sw{cs:List AV}(h:RV M σ n (.tup cs) v):∃vs:List Value,v=.tuple vs.toArray/\vs.length=cs.length/\∀j (h:j<cs.length) v,vs[j]? =some v->RV M σ n cs[j] v:=by
 cases h with
 |flat h=>cases h
 |tup _ vs hl hv=>exact⟨vs,rfl,hl,hv⟩
theorem RV.eP{b off:Nat}(h:RV M σ n (.ptr b off) v):v=.pointer (some ⟨σ b,off,none⟩)/\b<n:=by
 cases h with
 |flat h=>cases h
 |ptr _ _ h=>exact⟨rfl,h⟩
theorem RV.Bp(h:RV M σ n .cU v):v=.pointer none:=by cases h with|flat h=>cases h;rfl
theorem RV.mi{a:Option Addr}{m k:Nat}(h:RV M σ n (.lit a m k) v):v=.slice a m k:=by cases h with|flat h=>cases h;rfl
theorem RV.Ex(h:RV M σ n .nfn v):v=.nilFunc:=by cases h with|flat h=>cases h;rfl
theorem RV.pQ{cs:List AV}(h:RV M σ n (.ept cs) v):∃B off,v=.pointer (some ⟨B,off,none⟩)/\Cells M B off cs:=by
 cases h with
 |flat h=>cases h
 |ept _ B off h=>exact⟨B,off,rfl,h⟩
theorem RV.nx{f:Fn}{xs ys:List AV}(h:RV M σ n (.fn f xs ys) v):∃us vs:List Value,v=.func f us.toArray vs.toArray/\us.length=xs.length/\vs.length=ys.length/\
  (∀j (h:j<xs.length) v,us[j]? =some v->RV M σ n xs[j] v)/\(∀j (h:j<ys.length) v,vs[j]? =some v->RV M σ n ys[j] v):=by
 cases h with
 |flat h=>cases h
 |fn _ _ _ us vs h1 h2 h3 h4=>exact⟨us,vs,rfl,h1,h2,h3,h4⟩
theorem RV.Ht{b:Nat}(h:RV M σ n (.yl b) v):v=.func (.yield (σ b)) #[] #[]/\b<n:=by
 cases h with
 |flat h=>cases h
 |yl _ h=>exact⟨rfl,h⟩
theorem RV.cd{b m k:Nat}(h:RV M σ n (.bsl b m k) v):∃a,v=.slice a m k/\b<n/\m<=k/\m<=glim/\(k≠0->a=some ⟨σ b,0,none⟩):=by
 cases h with
 |flat h=>cases h
 |bsl _ _ _ a h hk hl ha=>exact⟨a,rfl,h,hk,hl,ha⟩
theorem RV.pR{b i z off:Nat}(h:RV M σ n (.elp b i z off) v):v=.pointer (some ⟨σ b,i*z+off,none⟩)/\b<n:=by
 cases h with
 |flat h=>cases h
 |elp _ _ _ _ h=>exact⟨rfl,h⟩
theorem RV.bK{b:Nat}(h:RV M σ n (.mpt b) v):v=.map (some (σ b))/\b<n:=by
 cases h with
 |flat h=>cases h
 |mpt _ h=>exact⟨rfl,h⟩
theorem RV.aU{x:AV}(h:RV M σ n x v)(hf:x.aU=true):FV M x v:=by
 cases h with
 |flat h=>exact h
 |agg=>simp[AV.aU] at hf
 |tup=>simp[AV.aU] at hf
 |ptr=>simp[AV.aU] at hf
 |ept=>simp[AV.aU] at hf
 |fn=>simp[AV.aU] at hf
 |yl=>simp[AV.aU] at hf
 |bsl=>simp[AV.aU] at hf
 |elp=>simp[AV.aU] at hf
 |mpt=>simp[AV.aU] at hf
theorem RV.IJ{x:AV}(h:RV M σ n x v)(hf:x.flat=true):FV M x v:=by
 cases h with
 |flat h=>exact h
 |agg cs vs hl h1 hv=>
  simp only[AV.flat,zT] at hf
  exact .agg cs vs hl h1 λj hj v hjv=>(hv j hj v hjv).aU (hf _ (zd hj))
 |tup=>simp[AV.flat,AV.aU] at hf
 |ptr=>simp[AV.flat,AV.aU] at hf
 |ept=>simp[AV.flat,AV.aU] at hf
 |fn=>simp[AV.flat,AV.aU] at hf
 |yl=>simp[AV.flat,AV.aU] at hf
 |bsl=>simp[AV.flat,AV.aU] at hf
 |elp=>simp[AV.flat,AV.aU] at hf
 |mpt=>simp[AV.flat,AV.aU] at hf
theorem FV.bG{x:AV}(h:FV M x v):FV M x.bG v:=by
 cases h with
 |sl o l a k B off sz ho hk hl hf ha hz hm hv=>exact .sl .no l a k B off sz (λz e=>by cases e) hk hl (λe=>by cases e) ha hz hm hv
 |top v=>exact .top v
 |bool b=>exact .bool b
 |int k n=>exact .int k n
 |str s h=>exact .str s h
 |agg cs vs hl h1 hv=>exact .agg cs vs hl h1 hv
 |cU=>exact .cU
 |nfn=>exact .nfn
 |nmp=>exact .nmp
 |tH=>exact .tH
 |lit a n k=>exact .lit a n k
theorem RV.bG{x:AV}(h:RV M σ n x v):RV M σ n x.bG v:=by
 cases h with
 |flat h=>exact .flat h.bG
 |agg cs vs hl h1 hv=>exact .agg cs vs hl h1 hv
 |tup cs vs hl hv=>exact .tup cs vs hl hv
 |ptr b off h=>exact .ptr b off h
 |ept cs B off h=>exact .ept cs B off h
 |fn f xs ys us vs h1 h2 hx hy=>exact .fn f xs ys us vs h1 h2 hx hy
 |yl b h=>exact .yl b h
 |bsl b m k a h hk hl ha=>exact .bsl b m k a h hk hl ha
 |elp b i z off h=>exact .elp b i z off h
 |mpt b h=>exact .mpt b h
theorem RV.norm{x:AV}(h:RV M σ n x v):RV M σ n x.norm v:=by
 cases x with
 |agg cs=>
  obtain⟨vs,rfl,hl,h1,hv⟩:=h.dR;refine .agg _ vs (by simpa using hl) h1 λj hj v hjv=>?_
  simp only[zF] at hj;rw[ZE]
  exact(hv j hj v hjv).bG
 |_=>exact h.bG
theorem BO(x:AV):x.aG.bG=x.bG:=by
 cases x with
 |sl o l=>cases o<;>rfl
 |_=>rfl
theorem o8(x:AV):x.aG.norm=x.norm:=by
 cases x with
 |sl o l=>cases o<;>rfl
 |_=>rfl
theorem RV.cr{x:AV}(h:RV M σ n x v):x.aG=x:=by
 cases h with
 |flat h=>
  cases h with
  |sl o l a k B off sz ho=>cases o with
   |own z=>exact absurd rfl (ho z)
   |_=>rfl
  |_=>rfl
 |_=>rfl
theorem RV.lt0{x:AV}{m:Nat}(h:RV M σ n x v)(hf:x.lt0 m=true):RV M σ m x v:=by
 cases h with
 |flat h=>exact .flat h
 |ptr b off _=>exact .ptr b off (by simpa[AV.lt0] using hf)
 |agg=>simp[AV.lt0,AV.aU] at hf
 |tup=>simp[AV.lt0,AV.aU] at hf
 |ept cs B off h=>exact .ept cs B off h
 |fn=>simp[AV.lt0,AV.aU] at hf
 |yl b _=>exact .yl b (by simpa[AV.lt0] using hf)
 |bsl b m k a h hk hl ha=>exact .bsl b m k a (by simpa[AV.lt0] using hf) hk hl ha
 |elp b i z off _=>exact .elp b i z off (by simpa[AV.lt0] using hf)
 |mpt b _=>exact .mpt b (by simpa[AV.lt0] using hf)
theorem RV.lt1{x:AV}{m:Nat}(h:RV M σ n x v)(hf:x.lt1 m=true):RV M σ m x v:=by
 cases h with
 |fn f xs ys us vs h1 h2 hx hy=>
  simp only[AV.lt1,zD,zT] at hf
  exact .fn f xs ys us vs h1 h2 (λj hj v e=>(hx j hj v e).lt0 (hf.1 _ (zd hj))) (λj hj v e=>(hy j hj v e).lt0 (hf.2 _ (zd hj)))
 |flat h=>exact .flat h
 |ptr b off k=>exact(RV.ptr (M:=M) (σ:=σ) b off k).lt0 (by simpa[AV.lt1] using hf)
 |agg=>simp[AV.lt1,AV.lt0,AV.aU] at hf
 |tup=>simp[AV.lt1,AV.lt0,AV.aU] at hf
 |ept cs B off h=>exact .ept cs B off h
 |yl b k=>exact(RV.yl (M:=M) (σ:=σ) b k).lt0 (by simpa[AV.lt1] using hf)
 |bsl b q k a h hk hl ha=>exact(RV.bsl (M:=M) (σ:=σ) b q k a h hk hl ha).lt0 (by simpa[AV.lt1] using hf)
 |elp b i z off h=>exact(RV.elp (M:=M) (σ:=σ) b i z off h).lt0 (by simpa[AV.lt1] using hf)
 |mpt b h=>exact(RV.mpt (M:=M) (σ:=σ) b h).lt0 (by simpa[AV.lt1] using hf)
theorem RV.lt2{x:AV}{m:Nat}(h:RV M σ n x v)(hf:x.lt2 m=true):RV M σ m x v:=by
 cases x with
 |agg cs=>
  obtain⟨vs,rfl,hl,h1,hv⟩:=h.dR;simp only[AV.lt2,zT] at hf
  exact .agg cs vs hl h1 λj hj v e=>(hv j hj v e).lt1 (hf _ (zd hj))
 |_=>exact h.lt1 hf
theorem RV.lt{x:AV}{m:Nat}(h:RV M σ n x v)(hf:x.lt m=true):RV M σ m x v:=by
 cases h with
 |flat h=>exact .flat h
 |agg cs vs hl h1 hv=>
  simp only[AV.lt,zT] at hf
  exact .agg cs vs hl h1 λj hj v e=>(hv j hj v e).lt1 (hf _ (zd hj))
 |tup cs vs hl hv=>
  simp only[AV.lt,zT] at hf
  exact .tup cs vs hl λj hj v e=>(hv j hj v e).lt2 (hf _ (zd hj))
 |ptr b off k=>exact(RV.ptr (M:=M) (σ:=σ) b off k).lt1 (by simpa[AV.lt] using hf)
 |ept cs B off h=>exact .ept cs B off h
 |fn f xs ys us vs h1 h2 hx hy=>exact(RV.fn f xs ys us vs h1 h2 hx hy).lt1 (by simpa[AV.lt] using hf)
 |yl b k=>exact(RV.yl (M:=M) (σ:=σ) b k).lt1 (by simpa[AV.lt] using hf)
 |bsl b q k a h hk hl ha=>exact(RV.bsl (M:=M) (σ:=σ) b q k a h hk hl ha).lt1 (by simpa[AV.lt] using hf)
 |elp b i z off h=>exact(RV.elp (M:=M) (σ:=σ) b i z off h).lt1 (by simpa[AV.lt] using hf)
 |mpt b h=>exact(RV.mpt (M:=M) (σ:=σ) b h).lt1 (by simpa[AV.lt] using hf)
end inv
theorem tM(m:Nat)(x:AV):x.aG.lt m=x.lt m:=by
 cases x with
 |sl o l=>cases o<;>rfl
 |_=>rfl
end Go.AM
