/-
  By an AI agent.
-/
import Derived.WalkKit
import Derived.WalkSpells
import Derived.WalkLawsBesides
import Derived.Lib.Hide
import Derived.RangeFuncMany
set_option linter.unusedSimpArgs false
set_option linter.unusedVariables false
abbrev zA:=@List.getElem?_eq_getElem
abbrev zB:=@List.getElem?_eq_some_iff
abbrev zC:=@List.length_append
abbrev zD:=@Bool.and_eq_true
abbrev zE:=@List.mem_of_getElem?
abbrev zF:=@List.length_map
abbrev zG:=@Nat.le_refl
abbrev zH:=@List.drop_eq_getElem_cons
abbrev zI:=@List.mem_cons
abbrev zJ:=@Nat.zero_le
abbrev zK:=@List.getElem?_append_left
abbrev zL:=@List.eq_nil_of_length_eq_zero
abbrev zM:=@Option.map_some
abbrev zN:=@Option.some.injEq
abbrev zO:=@Nat.eq_of_beq_eq_true
abbrev zP:=@List.map_cons
abbrev zQ:=@List.mem_cons_of_mem
abbrev zR:=@List.getElem?_eq_none
abbrev zS:=@List.all_eq_true
abbrev zT:=@Array.getD_eq_getD_getElem?
abbrev zU:=@List.length_singleton
abbrev zV:=@List.mem_cons_self
abbrev zW:=@Array.getElem?_setIfInBounds_ne
abbrev zX:=@List.length_cons
abbrev zY:=@List.mem_append
abbrev zZ:=@List.getElem?_append_right
abbrev za:=@Bool.true_and
abbrev zb:=@Bool.not_eq_true'
abbrev zc:=@List.getElem_mem
abbrev zd:=@List.mem_range
abbrev ze:=@List.cons_append
abbrev zf:=@List.length_replicate
abbrev zg:=@List.append_assoc
abbrev zh:=@Array.getElem?_eq_some_iff
abbrev zi:=@Array.getElem?_eq_getElem
abbrev zj:=@List.drop_length
abbrev zk:=@List.mem_map
abbrev zl:=@List.take_of_length_le
abbrev zm:=@List.length_set
abbrev zn:=@List.length_take
abbrev zo:=@List.mem_filter
abbrev zp:=@List.mem_singleton
abbrev zq:=@List.getElem?_set
abbrev zr:=@Nat.le_of_ble_eq_true
abbrev zt:=@Nat.lt_or_ge
abbrev zu:=@List.map_append
abbrev zw:=@Bool.false_and
abbrev zy:=@List.append_nil
abbrev zz:=@List.take_length
abbrev ZA:=@List.pairwise_cons
abbrev ZB:=@List.mem_append_left
abbrev ZC:=@List.take_add_one
abbrev ZD:=@List.getElem_map
abbrev ZE:=@Nat.mul_le_mul_right
abbrev ZF:=@List.getElem?_map
abbrev ZG:=@Option.bind_some
abbrev ZH:=@List.getElem_append_left
abbrev ZI:=@Nat.zero_add
abbrev ZJ:=@Array.length_toList
abbrev ZK:=@List.take_zero
abbrev ZL:=@Nat.add_mul
abbrev ZM:=@Bool.or_eq_true
abbrev ZN:=@Nat.le_trans
abbrev ZO:=@Array.all_eq_true_iff_forall_mem
abbrev ZP:=@List.length_nil
abbrev ZQ:=@List.getElem_cons_zero
abbrev ZR:=@List.getElem?_of_mem
abbrev ZS:=@Option.getD_some
abbrev ZT:=@Nat.lt_of_lt_of_le
abbrev ZU:=@List.mem_append_right
abbrev ZV:=@List.length_eq_zero_iff
abbrev ZW:=@List.getElem_append_right
abbrev ZX:=@Bool.false_eq_true
abbrev ZY:=@List.mem_replicate
abbrev ZZ:=@List.mem_iff_getElem
abbrev Za:=@List.getElem?_take
abbrev Zb:=@List.map_nil
abbrev Zc:=@List.nodup_cons
abbrev Zd:=@List.length_drop
abbrev Ze:=@List.getElem?_set_ne
abbrev Zf:=@Nat.add_zero
abbrev Zg:=@List.getElem_cons_succ
abbrev Zh:=@Array.getElem?_eq_none
abbrev Zi:=@List.nil_append
abbrev Zj:=@Nat.not_lt_zero
abbrev Zk:=@Nat.add_assoc
abbrev Zl:=@List.getElem?_cons_zero
abbrev Zm:=@List.filter_congr
abbrev Zn:=@Int.toNat_natCast
abbrev Zo:=@List.ext_getElem?
abbrev Zp:=@List.getElem_take
abbrev Zq:=@List.getElem_of_mem
abbrev Zr:=@Nat.div_lt_iff_lt_mul
abbrev Zs:=@List.filter_cons_of_neg
abbrev Zt:=@List.getElem_replicate
abbrev Zu:=@Option.isSome_none
abbrev Zv:=@List.foldl_cons
abbrev Zw:=@Nat.zero_lt_one
abbrev Zx:=@List.cons.injEq
abbrev Zy:=@List.length_filter_le
abbrev Zz:=@List.getElem_drop
abbrev yA:=@Nat.le_add_right
abbrev yB:=@Nat.sub_zero
abbrev yC:=@List.filter_eq_self
abbrev yD:=@List.take_succ_cons
abbrev yE:=@Array.getElem?_replicate
abbrev yF:=@Option.isSome_iff_exists
abbrev yG:=@Nat.div_add_mod
abbrev yH:=@Nat.min_eq_left
abbrev yI:=@Option.map_none
abbrev yJ:=@Option.some.inj
abbrev yK:=@Option.toList_some
abbrev yL:=@List.filter_append
abbrev yM:=@Nat.one_mul
abbrev yN:=@Nat.sub_self
abbrev yO:=@List.pairwise_lt_range
abbrev yP:=@Nat.mul_comm
abbrev yQ:=@List.drop_zero
abbrev yR:=@List.set_append_right
abbrev yS:=@List.getElem?_toArray
abbrev yT:=@Nat.mod_lt
abbrev yU:=@List.not_mem_nil
abbrev yV:=@Go.Result.andThen_ok
abbrev yW:=@Go.Sem.run_bind
abbrev yX:=@Go.Sem.run_pure
namespace Go.CK
open Go.RowKit
def lim:Nat:=4294967296
def dO(n:Int):Prop:=-9223372036854775808<=n/\n<=9223372036854775807
theorem dO.OJ{n:Int}(h:(Lit.int .i64 n).wf=true):dO n:=by
 simpa[Lit.wf,IntKind.min,IntKind.max,IntKind.signed,IntKind.bits,dO] using h
structure Ext(w w':World):Prop where
 bel:Below w.heap.size w w'
theorem Ext.refl(w:World):Ext w w:=⟨Below.refl _ _⟩
theorem Ext.size{w w':World}(h:Ext w w'):w.heap.size<=w'.heap.size:=h.bel.size
theorem Ext.alloc{a b:World}(h:Ext a b)(o:Obj):Ext a (b.alloc o):=⟨h.bel.alloc h.size o⟩
theorem Ext.cell{a b:World}(h:Ext a b){p:Addr}{v:Value}(c:a.cell? p=some v):b.cell? p=some v:=by
 rw[h.bel.cell (World.block_lt_of_cell? a p c)];exact c
abbrev Hp:=Nat->Nat->Option Value
def Hp.le(H H':Hp):Prop:=∀b o v,H b o=some v->H' b o=some v
def Hp.of(w:World):Hp:=λb o=>w.cell? ⟨b,o,none⟩
def Hp.plus(H:Hp)(w w':World):Hp:=λb o=>if w.heap.size<=b then w'.cell? ⟨b,o,none⟩ else H b o
def Hp.row(H:Hp)(w w':World)(v:Value):Hp:=λb o=>if v.ownBlock=some b then none else H.plus w w' b o
theorem Hp.le_refl(H:Hp):H.le H:=λ_ _ _ h=>h
theorem Hp.le_trans{A B C:Hp}(h:A.le B)(k:B.le C):A.le C:=λ_ _ _ x=>k _ _ _ (h _ _ _ x)
theorem Hp.lt{H:Hp}{w:World}(h:H.le (Hp.of w)){b o:Nat}{v:Value}(a:H b o=some v):b<w.heap.size:=World.block_lt_of_cell? w _ (h _ _ _ a)
theorem Hp.NJ{w w':World}(h:Ext w w'):(Hp.of w).le (Hp.of w'):=λ_ _ _ x=>h.cell x
theorem Hp.ext{H:Hp}{w w':World}(a:H.le (Hp.of w))(h:Ext w w'):H.le (Hp.of w'):=Hp.le_trans a (Hp.NJ h)
structure Sl{α:Type}(H:Hp)(sz:Nat)(R:List Value->α->Prop)(a:Option Addr)(l:List α):Prop where
 le:l.length<=lim
 at_:∀i (h:i<l.length),∃b o cs,a=some ⟨b,o,none⟩/\cs.length=sz/\(∀j x,cs[j]? =some x->H b (o+i*sz+j)=some x)/\R cs l[i]
theorem Sl.mono{α:Type}{H H':Hp}{sz:Nat}{R R':List Value->α->Prop}{a:Option Addr}{l:List α}(h:Sl H sz R a l)(f:H.le H')(e:∀cs x,x∈l->R cs x->R' cs x):Sl H' sz R' a l:=
 ⟨h.le,λi c=>let ⟨b,o,cs,n,m,k,g⟩:=h.at_ i c;⟨b,o,cs,n,m,λj x d=>f _ _ _ (k j x d),e _ _ (zc c) g⟩⟩
theorem Sl.nil{α:Type}{H:Hp}{sz:Nat}{R:List Value->α->Prop}{a:Option Addr}:Sl H sz R a ([]:List α):=⟨by simp,λi b=>by cases b⟩
theorem Sl.addr{α:Type}{H:Hp}{sz:Nat}{R:List Value->α->Prop}{a:Option Addr}{l:List α}(h:Sl H sz R a l)(c:0<l.length):∃b o,a=some ⟨b,o,none⟩:=
 let ⟨b,o,_,d,_⟩:=h.at_ 0 c;⟨b,o,d⟩
section
variable{α:Type}{H:Hp}{w0 w:World}{e:TypeId}{sz:Nat}{R:Hp->List Value->α->Prop}{v:Value}{l:List α}
end
section
variable{α:Type}{H:Hp}{w0 w:World}{e:TypeId}{sz:Nat}{R:Hp->List Value->α->Prop}{l:List α}{g cap:Nat}
end
theorem wa(w:World)(b j c a:Nat)(v:Value):(w.setCell ⟨b,j,none⟩ v).cell? ⟨c,a,none⟩=if b=c/\j=a then (if (w.cell? ⟨b,j,none⟩).isSome then some v else none) else w.cell? ⟨c,a,none⟩:=by
 split
 .rename_i h;obtain⟨rfl,rfl⟩:=h;split
  .rename_i hs;exact World.cell?_setCell_same' _ _ _ hs
  .rename_i hs;have d:w.cell? ⟨b,j,none⟩=none:=by simpa using hs
   cases g:(w.setCell ⟨b,j,none⟩ v).cell? ⟨b,j,none⟩ with
   |none=>rfl
   |some u=>
    exfalso;revert g;simp only[World.cell?,World.setCell,Array.getElem?_modify] at d|-
    cases hb:w.heap[b]? with
    |none=>simp
    |some o=>
     rw[hb] at d;cases o<;>simp_all
 .rename_i h;exact World.cell?_setCell_other _ _ _ _ (by simp;exact λe=>λf=>h ⟨e,f⟩)
end Go.CK
namespace Go.AM
open Go.CK Go.RowKit
inductive Cap where
 |no
 |full
 |own (sz:Nat)
deriving DecidableEq
inductive AV where
 |top
 |bool (b:Bool)
 |int (k:IntKind) (n:Int)
 |str (s:ByteArray)
 |sl (o:Cap) (l:List AV)
 |agg (cs:List AV)
 |tup (vs:List AV)
 |ptr (b off:Nat)
 |kB
 |ept (cs:List AV)
 |fn (f:Fn) (first caps:List AV)
 |yl (b:Nat)
 |bsl (b m k:Nat)
 |elp (b i z off:Nat)
 |mpt (b:Nat)
 |nfn
 |nmp
 |vc
 |lit (a:Option Addr) (n k:Nat)
deriving Inhabited
namespace AV
def cells:AV->List AV
 |.agg cs=>cs
 |v=>[v]
def isAgg:AV->Bool
 |.agg _=>true
 |_=>false
def aI:AV->AV
 |.sl (.own _) l=>.sl .no l
 |v=>v
def aZ:AV->Bool
 |.top|.bool _|.int .. |.str _|.kB|.nfn|.nmp|.vc|.lit .. =>true
 |.sl (.own _) _=>false
 |.sl _ _=>true
 |_=>false
def flat:AV->Bool
 |.agg cs=>cs.all aZ
 |v=>v.aZ
def ay:AV->AV
 |.sl _ l=>.sl .no l
 |v=>v
def norm:AV->AV
 |.agg cs=>.agg (cs.map ay)
 |v=>v.ay
def lt0(n:Nat):AV->Bool
 |.ptr b _=>decide (b<n)
 |.yl b=>decide (b<n)
 |.bsl b _ _=>decide (b<n)
 |.elp b _ _ _=>decide (b<n)
 |.mpt b=>decide (b<n)
 |.ept _=>true
 |v=>v.aZ
def lt1(n:Nat):AV->Bool
 |.fn _ xs ys=>xs.all (lt0 n)&&ys.all (lt0 n)
 |v=>v.lt0 n
def lt2(n:Nat):AV->Bool
 |.agg cs=>cs.all (lt1 n)
 |v=>v.lt1 n
def lt(n:Nat):AV->Bool
 |.agg cs=>cs.all (lt1 n)
 |.tup cs=>cs.all (lt2 n)
 |.ept _=>true
 |.sl _ _=>true
 |v=>v.lt1 n
end AV
inductive FV (M:Hp):AV->Value->Prop
 |top (v:Value):FV M .top v
 |bool (b:Bool):FV M (.bool b) (.bool b)
 |int (k:IntKind) (n:Int):FV M (.int k n) (.int k n)
 |str (s:ByteArray) (h:s.size<=lim):FV M (.str s) (.string s)
 |sl (o:Cap) (l:List AV) (a:Option Addr) (k B off sz:Nat) (ho:∀z,o≠.own z) (hk:l.length<=k) (hl:l.length<=lim) (hf:o=.full->k=l.length)
   (ha:l≠[]->a=some ⟨B,off,none⟩) (hz:∀i (h:i<l.length),l[i].cells.length=sz)
   (hm:∀i,i<l.length->∀j,j<sz->∃v,M B (off+i*sz+j)=some v/\v.oneCell'=true)
   (hv:∀i (h:i<l.length) j (hj:j<l[i].cells.length) v,M B (off+i*sz+j)=some v->FV M (l[i].cells[j]) v):FV M (.sl o l) (.slice a l.length k)
 |agg (cs:List AV) (vs:List Value) (hl:vs.length=cs.length) (h1:∀v∈vs,v.oneCell'=true)
   (hv:∀j (h:j<cs.length) v,vs[j]? =some v->FV M cs[j] v):FV M (.agg cs) (.agg vs.toArray)
 |kB:FV M .kB (.pointer none)
 |nfn:FV M .nfn .nilFunc
 |nmp:FV M .nmp (.map none)
 |vc:FV M .vc .nilIface
 |lit (a:Option Addr) (n k:Nat):FV M (.lit a n k) (.slice a n k)
def Cells(M:Hp)(B off:Nat)(cs:List AV):Prop:=∀j (h:j<cs.length),∃v,M B (off+j)=some v/\v.oneCell'=true/\FV M cs[j] v
def gl(M:Hp)(B off sz:Nat)(l:List AV):Prop:=∀i (h:i<l.length),l[i].cells.length=sz/\Cells M B (off+i*sz) l[i].cells
theorem FV.mono{M M':Hp}(p:M.le M'){x:AV}{v:Value}(h:FV M x v):FV M' x v:=by
 induction h with
 |top v=>exact .top v
 |bool b=>exact .bool b
 |int k n=>exact .int k n
 |str s h=>exact .str s h
 |sl o l a k B off sz r hk g t u m hm q ih=>
  refine .sl o l a k B off sz r hk g t u m (λi e j f=>let ⟨v,c,w⟩:=hm i e j f;⟨v,p _ _ _ c,w⟩) (λi e j f v d=>?_);obtain⟨v0,c,_⟩:=hm i e j (by rw[<-m i e];exact f)
  have:=p _ _ _ c;rw[this] at d;cases d
  exact ih i e j f _ c
 |agg cs vs g c q ih=>exact .agg cs vs g c ih
 |kB=>exact .kB
 |nfn=>exact .nfn
 |nmp=>exact .nmp
 |vc=>exact .vc
 |lit a n k=>exact .lit a n k
theorem Cells.mono{M M':Hp}(a:M.le M'){B off:Nat}{cs:List AV}(h:Cells M B off cs):Cells M' B off cs:=
 λj b=>let ⟨v,e,d,c⟩:=h j b;⟨v,a _ _ _ e,d,c.mono a⟩
theorem Cells.drop{M:Hp}{B off:Nat}{cs:List AV}(h:Cells M B off cs)(k:Nat):Cells M B (off+k) (cs.drop k):=λj a=>by
 simp only[Zd] at a;obtain⟨v,d,c,b⟩:=h (k+j) (by omega)
 exact⟨v,by rw[Zk];exact d,c,by rw[Zz];exact b⟩
theorem FV.jw{M:Hp}{o:Cap}{l:List AV}{a:Option Addr}{k B off sz:Nat}(g:∀z,o≠.own z)(hk:l.length<=k)(m:l.length<=lim)(n:o=.full->k=l.length)
  (p:l≠[]->a=some ⟨B,off,none⟩) (he:gl M B off sz l):FV M (.sl o l) (.slice a l.length k):=by
 refine .sl o l a k B off sz g hk m n p (λi h=>(he i h).1) (λi b j f=>?_) (λi b j f v e=>?_)
 .obtain ⟨s,d⟩:=he i b;obtain⟨v,c,r,_⟩:=d j (by omega)
  exact⟨v,c,r⟩
 .obtain ⟨s,d⟩:=he i b;obtain⟨v',c,_,q⟩:=d j f;rw[c] at e;cases e;exact q
theorem FV.cX{M:Hp}{o:Cap}{l:List AV}{v:Value}(h:FV M (.sl o l) v):
  ∃a k B off sz,v=.slice a l.length k/\(∀z,o≠.own z)/\l.length<=k/\l.length<=lim/\(o=.full->k=l.length)/\(l≠[]->a=some ⟨B,off,none⟩)/\gl M B off sz l:=by
 cases h with
 |sl _ _ a k B off sz g hk m n p c hm f=>
  refine⟨a,k,B,off,sz,rfl,g,hk,m,n,p,λi b=>⟨c i b,λj d=>?_⟩⟩;obtain⟨v,e,q⟩:=hm i b j (by rw[<-c i b];exact d)
  exact⟨v,e,q,f i b j d v e⟩
inductive RV (M:Hp) (σ:Nat->Nat) (n:Nat):AV->Value->Prop
 |flat {x:AV} {v:Value} (h:FV M x v):RV M σ n x v
 |agg (cs:List AV) (vs:List Value) (hl:vs.length=cs.length) (h1:∀v∈vs,v.oneCell'=true)
   (hv:∀j (h:j<cs.length) v,vs[j]? =some v->RV M σ n cs[j] v):RV M σ n (.agg cs) (.agg vs.toArray)
 |tup (cs:List AV) (vs:List Value) (hl:vs.length=cs.length)
   (hv:∀j (h:j<cs.length) v,vs[j]? =some v->RV M σ n cs[j] v):RV M σ n (.tup cs) (.tuple vs.toArray)
 |ptr (b off:Nat) (h:b<n):RV M σ n (.ptr b off) (.pointer (some ⟨σ b,off,none⟩))
 |ept (cs:List AV) (B off:Nat) (h:Cells M B off cs):RV M σ n (.ept cs) (.pointer (some ⟨B,off,none⟩))
 |fn (f:Fn) (xs ys:List AV) (us vs:List Value) (h1:us.length=xs.length) (h2:vs.length=ys.length)
   (hx:∀j (h:j<xs.length) v,us[j]? =some v->RV M σ n xs[j] v) (hy:∀j (h:j<ys.length) v,vs[j]? =some v->RV M σ n ys[j] v):
   RV M σ n (.fn f xs ys) (.func f us.toArray vs.toArray)
 |yl (b:Nat) (h:b<n):RV M σ n (.yl b) (.func (.yield (σ b)) #[] #[])
 |bsl (b m k:Nat) (a:Option Addr) (h:b<n) (hk:m<=k) (hl:m<=lim) (ha:k≠0->a=some ⟨σ b,0,none⟩):RV M σ n (.bsl b m k) (.slice a m k)
 |elp (b i z off:Nat) (h:b<n):RV M σ n (.elp b i z off) (.pointer (some ⟨σ b,i*z+off,none⟩))
 |mpt (b:Nat) (h:b<n):RV M σ n (.mpt b) (.map (some (σ b)))
theorem RV.mono{M M':Hp}(l:M.le M'){σ σ':Nat->Nat}{n n':Nat}(q:n<=n')(c:∀b,b<n->σ' b=σ b){x:AV}{v:Value}(h:RV M σ n x v):RV M' σ' n' x v:=by
 induction h with
 |flat h=>exact .flat (h.mono l)
 |agg cs vs d j _ ih=>exact .agg cs vs d j ih
 |tup cs vs d _ ih=>exact .tup cs vs d ih
 |ptr b off h=>rw[<-c b h];exact .ptr b off (by omega)
 |ept cs B off h=>exact .ept cs B off (h.mono l)
 |fn f xs ys us vs j p _ _ g e=>exact .fn f xs ys us vs j p g e
 |yl b h=>rw[<-c b h];exact .yl b (by omega)
 |bsl b m k a h hk d o=>exact .bsl b m k a (by omega) hk d (by rw[c b h];exact o)
 |elp b i z off h=>rw[<-c b h];exact .elp b i z off (by omega)
 |mpt b h=>rw[<-c b h];exact .mpt b (by omega)
section inv
variable{M:Hp}{σ:Nat->Nat}{n:Nat}{v:Value}
theorem RV.cS{b:Bool}(h:RV M σ n (.bool b) v):v=.bool b:=by cases h with|flat h=>cases h;rfl
theorem RV.aK{k:IntKind}{m:Int}(h:RV M σ n (.int k m) v):v=.int k m:=by cases h with|flat h=>cases h;rfl
theorem RV.cK{s:ByteArray}(h:RV M σ n (.str s) v):v=.string s/\s.size<=lim:=by cases h with|flat h=>cases h with|str _ h=>exact⟨rfl,h⟩
theorem RV.cX{o:Cap}{l:List AV}(h:RV M σ n (.sl o l) v):
  ∃a k B off sz,v=.slice a l.length k/\(∀z,o≠.own z)/\l.length<=k/\l.length<=lim/\(o=.full->k=l.length)/\(l≠[]->a=some ⟨B,off,none⟩)/\gl M B off sz l:=by
 cases h with|flat h=>exact h.cX
theorem RV.eD{cs:List AV}(h:RV M σ n (.agg cs) v):∃vs:List Value,v=.agg vs.toArray/\vs.length=cs.length/\(∀v∈vs,v.oneCell'=true)/\∀j (h:j<cs.length) v,vs[j]? =some v->RV M σ n cs[j] v:=by
 cases h with
 |flat h=>cases h with|agg _ vs b c a=>exact⟨vs,rfl,b,c,λj h v d=>.flat (a j h v d)⟩
 |agg _ vs b c a=>exact⟨vs,rfl,b,c,a⟩
theorem RV.tK{cs:List AV}(h:RV M σ n (.tup cs) v):∃vs:List Value,v=.tuple vs.toArray/\vs.length=cs.length/\∀j (h:j<cs.length) v,vs[j]? =some v->RV M σ n cs[j] v:=by
 cases h with
 |flat h=>cases h
 |tup _ vs b a=>exact⟨vs,rfl,b,a⟩
theorem RV.hR{b off:Nat}(h:RV M σ n (.ptr b off) v):v=.pointer (some ⟨σ b,off,none⟩)/\b<n:=by
 cases h with
 |flat h=>cases h
 |ptr _ _ h=>exact⟨rfl,h⟩
theorem RV.C3(h:RV M σ n .kB v):v=.pointer none:=by cases h with|flat h=>cases h;rfl
theorem RV.ot{a:Option Addr}{m k:Nat}(h:RV M σ n (.lit a m k) v):v=.slice a m k:=by cases h with|flat h=>cases h;rfl
theorem RV.GP(h:RV M σ n .nfn v):v=.nilFunc:=by cases h with|flat h=>cases h;rfl
theorem RV.qH{cs:List AV}(h:RV M σ n (.ept cs) v):∃B off,v=.pointer (some ⟨B,off,none⟩)/\Cells M B off cs:=by
 cases h with
 |flat h=>cases h
 |ept _ B off h=>exact⟨B,off,rfl,h⟩
theorem RV.rZ{f:Fn}{xs ys:List AV}(h:RV M σ n (.fn f xs ys) v):∃us vs:List Value,v=.func f us.toArray vs.toArray/\us.length=xs.length/\vs.length=ys.length/\
  (∀j (h:j<xs.length) v,us[j]? =some v->RV M σ n xs[j] v)/\(∀j (h:j<ys.length) v,vs[j]? =some v->RV M σ n ys[j] v):=by
 cases h with
 |flat h=>cases h
 |fn _ _ _ us vs d c b a=>exact⟨us,vs,rfl,d,c,b,a⟩
theorem RV.Km{b:Nat}(h:RV M σ n (.yl b) v):v=.func (.yield (σ b)) #[] #[]/\b<n:=by
 cases h with
 |flat h=>cases h
 |yl _ h=>exact⟨rfl,h⟩
theorem RV.cj{b m k:Nat}(h:RV M σ n (.bsl b m k) v):∃a,v=.slice a m k/\b<n/\m<=k/\m<=lim/\(k≠0->a=some ⟨σ b,0,none⟩):=by
 cases h with
 |flat h=>cases h
 |bsl _ _ _ a h hk c d=>exact⟨a,rfl,h,hk,c,d⟩
theorem RV.qJ{b i z off:Nat}(h:RV M σ n (.elp b i z off) v):v=.pointer (some ⟨σ b,i*z+off,none⟩)/\b<n:=by
 cases h with
 |flat h=>cases h
 |elp _ _ _ _ h=>exact⟨rfl,h⟩
theorem RV.ft{b:Nat}(h:RV M σ n (.mpt b) v):v=.map (some (σ b))/\b<n:=by
 cases h with
 |flat h=>cases h
 |mpt _ h=>exact⟨rfl,h⟩
theorem RV.aZ{x:AV}(h:RV M σ n x v)(a:x.aZ=true):FV M x v:=by
 cases h with
 |flat h=>exact h
 |agg=>simp[AV.aZ] at a
 |tup=>simp[AV.aZ] at a
 |ptr=>simp[AV.aZ] at a
 |ept=>simp[AV.aZ] at a
 |fn=>simp[AV.aZ] at a
 |yl=>simp[AV.aZ] at a
 |bsl=>simp[AV.aZ] at a
 |elp=>simp[AV.aZ] at a
 |mpt=>simp[AV.aZ] at a
theorem RV.Jg{x:AV}(h:RV M σ n x v)(a:x.flat=true):FV M x v:=by
 cases h with
 |flat h=>exact h
 |agg cs vs e f d=>
  simp only[AV.flat,zS] at a
  exact .agg cs vs e f λj c v b=>(d j c v b).aZ (a _ (zc c))
 |tup=>simp[AV.flat,AV.aZ] at a
 |ptr=>simp[AV.flat,AV.aZ] at a
 |ept=>simp[AV.flat,AV.aZ] at a
 |fn=>simp[AV.flat,AV.aZ] at a
 |yl=>simp[AV.flat,AV.aZ] at a
 |bsl=>simp[AV.flat,AV.aZ] at a
 |elp=>simp[AV.flat,AV.aZ] at a
 |mpt=>simp[AV.flat,AV.aZ] at a
theorem FV.ay{x:AV}(h:FV M x v):FV M x.ay v:=by
 cases h with
 |sl o l a k B off sz j hk d m g f hm c=>exact .sl .no l a k B off sz (λz e=>by cases e) hk d (λe=>by cases e) g f hm c
 |top v=>exact .top v
 |bool b=>exact .bool b
 |int k n=>exact .int k n
 |str s h=>exact .str s h
 |agg cs vs d i c=>exact .agg cs vs d i c
 |kB=>exact .kB
 |nfn=>exact .nfn
 |nmp=>exact .nmp
 |vc=>exact .vc
 |lit a n k=>exact .lit a n k
theorem RV.ay{x:AV}(h:RV M σ n x v):RV M σ n x.ay v:=by
 cases h with
 |flat h=>exact .flat h.ay
 |agg cs vs c e d=>exact .agg cs vs c e d
 |tup cs vs c d=>exact .tup cs vs c d
 |ptr b off h=>exact .ptr b off h
 |ept cs B off h=>exact .ept cs B off h
 |fn f xs ys us vs e o j g=>exact .fn f xs ys us vs e o j g
 |yl b h=>exact .yl b h
 |bsl b m k a h hk c l=>exact .bsl b m k a h hk c l
 |elp b i z off h=>exact .elp b i z off h
 |mpt b h=>exact .mpt b h
theorem RV.norm{x:AV}(h:RV M σ n x v):RV M σ n x.norm v:=by
 cases x with
 |agg cs=>
  obtain⟨vs,rfl,d,e,c⟩:=h.eD;refine .agg _ vs (by simpa using d) e λj b v a=>?_
  simp only[zF] at b;rw[ZD]
  exact(c j b v a).ay
 |_=>exact h.ay
theorem Du(x:AV):x.aI.ay=x.ay:=by
 cases x with
 |sl o l=>cases o<;>rfl
 |_=>rfl
theorem FL(x:AV):x.aI.norm=x.norm:=by
 cases x with
 |sl o l=>cases o<;>rfl
 |_=>rfl
theorem RV.cr{x:AV}(h:RV M σ n x v):x.aI=x:=by
 cases h with
 |flat h=>
  cases h with
  |sl o l a k B off sz b=>cases o with
   |own z=>exact absurd rfl (b z)
   |_=>rfl
  |_=>rfl
 |_=>rfl
theorem RV.lt0{x:AV}{m:Nat}(h:RV M σ n x v)(c:x.lt0 m=true):RV M σ m x v:=by
 cases h with
 |flat h=>exact .flat h
 |ptr b off _=>exact .ptr b off (by simpa[AV.lt0] using c)
 |agg=>simp[AV.lt0,AV.aZ] at c
 |tup=>simp[AV.lt0,AV.aZ] at c
 |ept cs B off h=>exact .ept cs B off h
 |fn=>simp[AV.lt0,AV.aZ] at c
 |yl b _=>exact .yl b (by simpa[AV.lt0] using c)
 |bsl b m k a h hk d e=>exact .bsl b m k a (by simpa[AV.lt0] using c) hk d e
 |elp b i z off _=>exact .elp b i z off (by simpa[AV.lt0] using c)
 |mpt b _=>exact .mpt b (by simpa[AV.lt0] using c)
theorem RV.lt1{x:AV}{m:Nat}(h:RV M σ n x v)(c:x.lt1 m=true):RV M σ m x v:=by
 cases h with
 |fn f xs ys us vs s r l g=>
  simp only[AV.lt1,zD,zS] at c
  exact .fn f xs ys us vs s r (λj d v e=>(l j d v e).lt0 (c.1 _ (zc d))) (λj d v e=>(g j d v e).lt0 (c.2 _ (zc d)))
 |flat h=>exact .flat h
 |ptr b off k=>exact(RV.ptr (M:=M) (σ:=σ) b off k).lt0 (by simpa[AV.lt1] using c)
 |agg=>simp[AV.lt1,AV.lt0,AV.aZ] at c
 |tup=>simp[AV.lt1,AV.lt0,AV.aZ] at c
 |ept cs B off h=>exact .ept cs B off h
 |yl b k=>exact(RV.yl (M:=M) (σ:=σ) b k).lt0 (by simpa[AV.lt1] using c)
 |bsl b q k a h hk o p=>exact(RV.bsl (M:=M) (σ:=σ) b q k a h hk o p).lt0 (by simpa[AV.lt1] using c)
 |elp b i z off h=>exact(RV.elp (M:=M) (σ:=σ) b i z off h).lt0 (by simpa[AV.lt1] using c)
 |mpt b h=>exact(RV.mpt (M:=M) (σ:=σ) b h).lt0 (by simpa[AV.lt1] using c)
theorem RV.lt2{x:AV}{m:Nat}(h:RV M σ n x v)(a:x.lt2 m=true):RV M σ m x v:=by
 cases x with
 |agg cs=>
  obtain⟨vs,rfl,d,f,c⟩:=h.eD;simp only[AV.lt2,zS] at a
  exact .agg cs vs d f λj b v e=>(c j b v e).lt1 (a _ (zc b))
 |_=>exact h.lt1 a
theorem RV.lt{x:AV}{m:Nat}(h:RV M σ n x v)(c:x.lt m=true):RV M σ m x v:=by
 cases h with
 |flat h=>exact .flat h
 |agg cs vs d o l=>
  simp only[AV.lt,zS] at c
  exact .agg cs vs d o λj g v e=>(l j g v e).lt1 (c _ (zc g))
 |tup cs vs d l=>
  simp only[AV.lt,zS] at c
  exact .tup cs vs d λj g v e=>(l j g v e).lt2 (c _ (zc g))
 |ptr b off k=>exact(RV.ptr (M:=M) (σ:=σ) b off k).lt1 (by simpa[AV.lt] using c)
 |ept cs B off h=>exact .ept cs B off h
 |fn f xs ys us vs o t r p=>exact(RV.fn f xs ys us vs o t r p).lt1 (by simpa[AV.lt] using c)
 |yl b k=>exact(RV.yl (M:=M) (σ:=σ) b k).lt1 (by simpa[AV.lt] using c)
 |bsl b q k a h hk d s=>exact(RV.bsl (M:=M) (σ:=σ) b q k a h hk d s).lt1 (by simpa[AV.lt] using c)
 |elp b i z off h=>exact(RV.elp (M:=M) (σ:=σ) b i z off h).lt1 (by simpa[AV.lt] using c)
 |mpt b h=>exact(RV.mpt (M:=M) (σ:=σ) b h).lt1 (by simpa[AV.lt] using c)
end inv
theorem lz(m:Nat)(x:AV):x.aI.lt m=x.lt m:=by
 cases x with
 |sl o l=>cases o<;>rfl
 |_=>rfl
end Go.AM
