/-
  Texts of this aV joined (wip/gen/bundle.py),those declarations only that are needed:IxH LayT IxT IxU. By an AI agent.
-/
import Derived.Test.YtcjfkbdbcgmomaaGreatDoorSax
import Derived.Ground.SlgfProg
import Derived.Shelf.SlicesE.DeleteFunc
import Derived.Shelf.Slices.SearchI
import Derived.Shelf.Slices.Clone
set_option linter.unusedSimpArgs false
set_option linter.unusedVariables false
set_option maxRecDepth 100000
namespace Go.CK
open Go.AM Go.Proofs
structure mz{α:Type}(f:α->AV)(z:Nat):Prop where
 pos:0<z
 sz:∀x,(f x).cells.length=z
 de:∀x,∀c∈(f x).cells,c.aG=c
theorem mz.len{α:Type}{f:α->AV}{z:Nat}(h:mz f z)(l:List α):(cellsOf (l.map f)).length=l.length*z:=by
 rw[bq (z:=z) λy hy=>by obtain⟨x,_,rfl⟩:=zl.1 hy;exact h.sz x,zF]
theorem mz.mem{α:Type}{f:α->AV}{z:Nat}(h:mz f z){l:List α}{c:AV}(hc:c∈cellsOf (l.map f)):c.aG=c:=by
 obtain⟨y,h1,h2⟩:=nq hc;obtain⟨x,_,rfl⟩:=zl.1 h1;exact h.de x c h2
theorem mz.take{α:Type}{f:α->AV}{z:Nat}(h:mz f z)(l:List α)(p:List AV):(cellsOf (l.map f)++p).take (l.length*z)=cellsOf (l.map f):=by
 rw[<-h.len l];simp
theorem IZ:mz AV.mpt 1:=⟨Zz,λ_=>rfl,λx c h=>by simp[AV.cells] at h;subst h;rfl⟩
theorem xX:Plain Ac.av 3:=⟨by decide,λ_=>rfl,λx c h=>by
 simp[Ac.av,AV.cells] at h;rcases h with rfl|rfl|rfl<;>rfl,λx c h=>by
 simp[Ac.av,AV.cells] at h;rcases h with rfl|rfl|rfl<;>rfl⟩
theorem AU{α:Type}{f:α->AV}{z:Nat}(h:Plain f z):mz f z:=⟨h.pos,h.sz,h.de⟩
theorem z7{α:Type}{f:α->AV}{z:Nat}(hp:mz f z){e:List (Nat×AV)}{bs:List Box}{lo:Nat}{b m k b2 m2 k2:Nat}{l l2:List α}{K:AV->St->Prop}(hb:bs[b]? =some (aN f z k l))(hb2:bs[b2]? =some (aN f z k2 l2))(hm:m=l.length)(hm2:m2=l2.length)(hk:m<=k)(hlim:m+m2<=4294967296)
  (h:∀k',(l++l2).length<=k'->K (.bsl bs.length (l++l2).length k') ⟨e,bs.set b .dead++[aN f z k' (l++l2)],lo⟩):DX z ⟨e,bs,lo⟩ (.bsl b m k) (.bsl b2 m2 k2) K:=by
 subst hm hm2;refine⟨sX hb ?_⟩;have hr2:AM.rowAt bs b2=some (cellsOf (l2.map f)++List.replicate ((k2-l2.length)*z) AV.top):=dy hb2;simp only[o6,hr2];rw[hp.take,hp.take];refine⟨⟨by rw[zC,hp.len];exact yD _ _,λx hx=>hp.mem hx⟩,⟨hp.pos,?_,hlim,λx hx=>hp.mem hx⟩,λk' hk'=>?_⟩
 .rw [zC,hp.len,zg,<-ZN];exact ZF _ (by omega)
 .rw [<-zh,<-i6,<-zw];have:=h k' (by simpa using hk')
  simp only[zC] at this;unfold aN at this;simp only[zC] at this;exact this
theorem jw{B:List Box}{a:Nat}{r:Box}{b:Nat}(hb:b≠a)(hl:b<B.length):cellsD (B.set a .dead++[r]) b=cellsD B b:=by
 simp only[cellsD,aa];rw[zK (by rw[zn];exact hl),Zh (Ne.symm hb)]
theorem au.Gt(s:St)(b:Nat)(hb:s.bs[b]? =some (.mp [])):au s ⟨s.env,s.bs.set b (.tab ⟨[],0,[]⟩),s.lo⟩:=λE G a w h=>by
 have hlt:=(zB.1 hb).1;refine⟨G,h.nU (λc=>?_) (λc=>?_) (by simp)⟩
 .exact cx hb rfl rfl c
 .rw [aH hb rfl];split
  .rename_i e;subst e;simp[ag,hb,Box.lb?];rfl
  .rfl
theorem az.Gt{s t:St}(b:Nat)(hb:s.bs[b]? =some (.mp []))(h:az ⟨s.env,s.bs.set b (.tab ⟨[],0,[]⟩),s.lo⟩ t):az s t:=⟨(au.Gt s b hb).trans h.out⟩
structure K8(bs:List Box)(t k:Nat)(cs:List Nat):Prop where
 row:bs[t]? =some (aN AV.mpt 1 k cs)
 le:cs.length<=k
 few:cs.length<=10000000
 tab:∀c∈cs,∃x l,bs[c]? =some (.tab x)/\ib x l
theorem az.tg{env:List (Nat×AV)}{bs:List Box}{lo p j:Nat}{cs:List AV}{t:St}(hb:bs[p]? =some (.cells cs))(hj:cs[j]? =some (.sl .full []))(h:az ⟨env,bs.set p (.cells (cs.set j (.bsl bs.length 0 0)))++[.row []],lo⟩ t):az ⟨env,bs,lo⟩ t:=by
 have hlt:=(zB.1 hb).1;have hc:aa bs p=some cs:=by simp[aa,hb,Box.cs?]
 have hc2:aa (bs++[.row []]) p=some cs:=by simp[aa,zK hlt,hb,Box.cs?]
 refine az.xo (.bx p j) (by simp[St.at,hc,hj]) (by simp[St.at,hc2,hj]) ?_
 have e:(⟨env,bs++[.row []],lo⟩:St).upd (.bx p j) (.bsl bs.length 0 0)=⟨env,bs.set p (.cells (cs.set j (.bsl bs.length 0 0)))++[.row []],lo⟩:=by
  simp only[St.upd,hc2,St.aF];rw[List.set_append_left _ _ hlt]
 show az ((⟨env,bs++[.row []],lo⟩:St).upd (.bx p j) (.bsl bs.length 0 0)) t;rw[e];exact h
def Pre(bs b2:List Box):Prop:=bs.length<=b2.length/\∀b,b<bs.length->b2[b]? =bs[b]?
theorem Pre.snoc{bs b2:List Box}(h:Pre bs b2)(x:Box):Pre bs (b2++[x]):=⟨by rw[zC];have:=h.1;omega,λb hb=>by
 rw[zK (by have:=h.1;omega)];exact h.2 b hb⟩
theorem Pre.app{bs b2:List Box}(h:Pre bs b2):∃X,b2=bs++X:=by
 refine⟨b2.drop bs.length,Zr λi=>?_⟩
 by_cases hi:i<bs.length
 .rw [zK hi];exact h.2 i hi
 .rw [za (by omega),List.getElem?_drop]
  congr 1;omega
end Go.CK
namespace Go.Proofs
open Go.Shelf
def Tryz.laysSearch_ren:Go.Shelf.Ren:=⟨λ|25=>105|31=>155|32=>156|37=>152|n=>n,λ|22=>41|3=>3|4=>4|40=>223|0=>0|n=>n,λ|n=>n⟩
theorem Tryz.Dj:Go.Proofs.Lays2.n25 Tryz.prog Tryz.laysSearch_ren:={
 mixed:=by kernel_rfl,
 f25:=Tryz.func105.trans (congrArg some (by kernel_rfl)),
 f31:=Tryz.func155.trans (congrArg some (by kernel_rfl)),
 f32:=Tryz.func156.trans (congrArg some (by kernel_rfl)),
 f37:=Tryz.func152.trans (congrArg some (by kernel_rfl)),
 t0:=Tryz.underlying0,
 a0:=Tryz.isAgg0,
 z0:=Tryz.sizeOf0,
 v0:=Tryz.zeroValue0,
 t3:=Tryz.underlying3,
 a3:=Tryz.isAgg3,
 z3:=Tryz.sizeOf3,
 v3:=Tryz.zeroValue3,
 t4:=Tryz.underlying4,
 a4:=Tryz.isAgg4,
 z4:=Tryz.sizeOf4,
 v4:=Tryz.zeroValue4,
 t22:=Tryz.underlying41,
 a22:=Tryz.isAgg41,
 z22:=Tryz.sizeOf41,
 v22:=Tryz.zeroValue41,
 t40:=Tryz.underlying223,
 a40:=Tryz.isAgg223,
 z40:=Tryz.sizeOf223,
 v40:=Tryz.zeroValue223}
def Tryz.laysCloneI_ren:Go.Shelf.Ren:=⟨λ|15=>44|n=>n,λ|22=>41|3=>3|4=>4|n=>n,λ|n=>n⟩
theorem Tryz.Dk:Go.Proofs.Lays2.n15 Tryz.prog Tryz.laysCloneI_ren:={
 mixed:=by kernel_rfl,
 f15:=Tryz.func44.trans (congrArg some (by kernel_rfl)),
 t3:=Tryz.underlying3,
 a3:=Tryz.isAgg3,
 z3:=Tryz.sizeOf3,
 v3:=Tryz.zeroValue3,
 t4:=Tryz.underlying4,
 a4:=Tryz.isAgg4,
 z4:=Tryz.sizeOf4,
 v4:=Tryz.zeroValue4,
 t22:=Tryz.underlying41,
 a22:=Tryz.isAgg41,
 z22:=Tryz.sizeOf41,
 v22:=Tryz.zeroValue41,
 i3:=by kernel_rfl}
def Tryz.laysDelF_ren:Go.Shelf.Ren:=⟨λ|10=>54|6=>109|n=>n,λ|22=>41|23=>3|25=>45|3=>3|4=>4|0=>0|n=>n,λ|n=>n⟩
theorem Tryz.Hm:Go.Proofs.SlLaysH.n10 Tryz.prog Tryz.laysDelF_ren:={
 mixed:=by kernel_rfl,
 f6 := ⟨ "slices.IndexFunc[[]int,int]", by decide, Tryz.func109.trans (congrArg some (by kernel_rfl))⟩,
 f10 := ⟨ "slices.DeleteFunc[[]int,int]", by decide, Tryz.func54.trans (congrArg some (by kernel_rfl))⟩,
 t0:=Tryz.underlying0,
 a0:=Tryz.isAgg0,
 z0:=Tryz.sizeOf0,
 v0:=Tryz.zeroValue0,
 t3:=Tryz.underlying3,
 a3:=Tryz.isAgg3,
 z3:=Tryz.sizeOf3,
 v3:=Tryz.zeroValue3,
 t4:=Tryz.underlying4,
 a4:=Tryz.isAgg4,
 z4:=Tryz.sizeOf4,
 v4:=Tryz.zeroValue4,
 t22:=Tryz.underlying41,
 a22:=Tryz.isAgg41,
 z22:=Tryz.sizeOf41,
 v22:=Tryz.zeroValue41,
 a23:=Tryz.isAgg3,
 z23:=Tryz.sizeOf3,
 t25:=Tryz.underlying45,
 a25:=Tryz.isAgg45,
 z25:=Tryz.sizeOf45,
 v25:=Tryz.zeroValue45}
end Go.Proofs
namespace Go.AM
open Go.CK Go.Proofs
theorem RS.drewN{E:Entry}{G:Gh}{s:St}{a:Act}{w:World}(h:RS E G s a w):∀n,RS E G s a (w.drewN n):=λn=>by
 induction n with
 |zero=>exact h
 |succ n ih=>exact ih.drew
theorem RS.GA{E:Entry}{G:Gh}{s:St}{a:Act}{w:World}(h:RS E G s a w){b:Nat}{x:TB}(hb:s.bs[b]? =some (.tab x)){r:TR}(hr:r.row∈x.rows)(j:Nat):w.cell? ⟨r.B,j,none⟩=r.ae[j]?:=by
 obtain⟨h1,_⟩:=h.qi hb hr;simp[World.cell?,h1]
theorem IM{M:Hp}{σ:Nat->Nat}{n:Nat}{r:TR}{id:Int}{args:List Value}(hl:args.length=2)(hav:∀j (h:j<[r.lit,AV.int .i64 id].length) v,args[j]? =some v->RV M σ n ([r.lit,AV.int .i64 id][j]) v):args=[r.val,.int .i64 id]:=by
 match args,hl with
 |[u,v],_=>
  have h0:=hav 0 (by simp) u rfl
  have h1:=hav 1 (by simp) v rfl
  simp only[ZS,Zj] at h0 h1;rw[RV.mi h0,h1.aA];rfl
theorem E9{bs:List Box}{b:Nat}{x:TB}{l:List TR}{r:TR}{id:Int}(hb:bs[b]? =some (.tab x))(hx:ib x l)(hr:r∈l)(hs:r.ids.Pairwise (·<=·))(hn:r.ids.length<=1000000):
  AM.Sem Tryz.prog 105 [r.lit,.int .i64 id] bs λv bs'=>v=.tup [.int .i64 (r.ids.countP (·<id):Nat),.bool (r.ids.contains id)]/\bs'=bs:=by
 intro E G a0 w args lo hrs hlen hav;obtain rfl:=IM hlen hav;have h0:=hrs.pw (bB G bs w 1) ⟨#[.tuple #[]],[]⟩ (Fr.refl _ _ _ hrs.fr.kn) rfl bs.length rfl (zG _) (λ_ _=>rfl) (λB hB=>.inl hB) rfl;refine(Any.slices_BinarySearch_int Tryz.Dj r.B 0 r.ids.length r.cap r.ids id w (zG _) (by omega) (λj hj=>?_) (by rw[ZA];exact hs)).mono ?_
 .rw [ZJ,hrs.GA hb (hx.rows r hr)];rw[TR.ae,zK (by simpa using hj),ZG,zA hj]
  simp[List.getD,hj]
 rintro e w' ⟨rfl,q,rfl⟩;rw[ZA];refine⟨_,_,_,{G with cl:=fF G.cl},rfl,⟨rfl,rfl⟩,?_⟩;refine(h0.drewN q).put (k:=0) Zz (.tup _ [.int .i64 _,.bool _] rfl λj hj v hv=>?_)
 match j,hj with
 |0,_=>cases hv;exact .flat (.int _ _)
 |1,_=>cases hv;exact .flat (.bool _)
def qJ:List Value->Nat->List Value->List Value
 |l,_,[]=>l
 |l,o,v::r=>qJ (l.set o v) (o+1) r
theorem tR:∀(us l:List Value) (o:Nat),(qJ l o us).length=l.length
 |[],l,o=>rfl
 |v::r,l,o=>by rw[qJ,tR r];simp
theorem lp:∀(us l:List Value) (o j:Nat),o+us.length<=l.length->(qJ l o us)[j]? =if o<=j/\j<o+us.length then us[j-o]? else l[j]?
 |[],l,o,j,_=>by rw[qJ,if_neg (by simp only[ZR];omega)]
 |v::r,l,o,j,h=>by
  rw[zY] at h;rw[qJ,lp r _ _ _ (by simp;omega),zY]
  by_cases h1:o+1<=j/\j<o+1+r.length
  .rw [if_pos h1,if_pos (by omega),show j-o=(j-(o+1))+1 by omega,List.getElem?_cons_succ]
  .rw [if_neg h1]
   by_cases h2:j=o
   .subst h2;rw[if_pos (by omega),yR,List.getElem?_set_self (by omega)];rfl
   .rw [if_neg (by omega),Zh (by omega)]
theorem cA{b:Nat}{T:TypeId}{fz:Nat×Nat}:∀(us vs:List Value) (o:Nat) (w:World),w.heap[b]? =some (.cells vs.toArray T fz)->(w.setCells b o us).heap[b]? =some (.cells (qJ vs o us).toArray T fz)/\(w.setCells b o us).tape=w.tape
 |[],vs,o,w,h=>⟨h,rfl⟩
 |v::r,vs,o,w,h=>by
  rw[World.setCells,qJ];have h1:=cA (b:=b) (T:=T) (fz:=fz) r (vs.set o v) (o+1) (w.setCell ⟨b,o,none⟩ v) (by simp[World.setCell,Array.getElem?_modify,h])
  exact⟨h1.1,h1.2.trans (by simp[World.setCell])⟩
theorem A1{α β:Type}{f:α->β}:∀{l:List α},(l.map f).Nodup->∀{p q:α},p∈l->q∈l->f p=f q->p=q
 |a::l,hn,p,q,hp,hq,e=>by
  rw[zQ,Zf] at hn;rcases zI.1 hp with h1|h1<;>rcases zI.1 hq with h2|h2
  .rw [h1,h2]
  .exact absurd (zl.2 ⟨q,h2,by rw[<-e,h1]⟩) hn.1
  .exact absurd (zl.2 ⟨p,h1,by rw[e,h2]⟩) hn.1
  .exact A1 hn.2 h1 h2 e
theorem ib.Kp{x:TB}{l:List TR}{r r':TR}(h:ib x l)(hr:r∈l)(hk:r'.key=r.key)(hB:r'.B=r.B)(hc:r'.cap<=9223372036854775807):fS ⟨x.es,x.c,r'.row::x.rows.filter λq=>decide (q.2.1≠r.B)⟩ l r':=
 have ne:∀q∈l,q.key≠r'.key->q.B≠r.B:=λq hq hqk e=>hqk (by rw[hk,A1 h.nodB hq hr e])
 have jB:∀q∈r'.row::x.rows.filter λq=>decide (q.2.1≠r.B),q.1=q.2.1:=λq hq=>by
  rcases zI.1 hq with rfl|hq
  .rfl
  .exact h.jB q (zp.1 hq).1
 ⟨h.es,λq hq hqk=>zR _ (zp.2 ⟨h.rows q hq,decide_eq_true (ne q hq hqk)⟩),zW ..,jB,h.nodK,h.nodB,(λq hq hqk=>by rw[hB];exact ne q hq hqk),h.cap,hc⟩
theorem ib.Kr{x:TB}{l:List TR}{r':TR}(h:ib x l)(hB:∀q∈l,q.B≠r'.B)(hc:r'.cap<=9223372036854775807):fS ⟨x.es,x.c,r'.row::x.rows⟩ l r':=
 have jB:∀q∈r'.row::x.rows,q.1=q.2.1:=λq hq=>by
  rcases zI.1 hq with rfl|hq
  .rfl
  .exact h.jB q hq
 ⟨h.es,λq hq _=>zR _ (h.rows q hq),zW ..,jB,h.nodK,h.nodB,(λq hq _=>hB q hq),h.cap,hc⟩
section
variable{E:Entry}{G:Gh}{s:St}{a:Act}{w:World}
theorem RS.Lc(h:RS E G s a w){B:Nat}{w':World}(hBw:B<w.heap.size)(hos:w'.os=w.os)(htp:w'.tape=w.tape)(hout:w'.output=w.output)(hsize:w.heap.size<=w'.heap.size)(hother0:∀k,k<w.heap.size->k≠B->w'.heap[k]? =w.heap[k]?)(hM:∀k,G.M B k=none)(hbox:∀b cs,aa s.bs b=some cs->G.σ b≠B)(hown:∀p z l,s.at p=some (.sl (.own z) l)->G.cl p≠some B)(hm:E.FP B\/E.w.heap.size<=B){bs':List Box}{ds':List Deferred}(hlen:bs'.length=s.bs.length)(hbc:∀b,aa bs' b=aa s.bs b)
  (hsp:Sp E.FP E.w G.M G.σ G.cl bs' ds' E.dd w'):RS E G ⟨s.env,bs',s.lo⟩ ⟨a.tmps,ds'⟩ w':=by
 have hlt:∀(k:Nat) (o:Obj),w.heap[k]? =some o->k<w.heap.size:=λk o hk=>(zi.1 hk).1
 have hat:∀p,(⟨s.env,bs',s.lo⟩:St).at p=s.at p:=λp=>by
  cases p with
  |sl t=>rfl
  |bx b j=>simp only[St.at,hbc]
 have hval:∀p x,s.at p=some x->aw G.σ ⟨a.tmps,ds'⟩ w' p=aw G.σ a w p:=λp x hp=>by
  cases p with
  |sl t=>rfl
  |bx b j=>
   simp only[St.at] at hp
   cases hb:aa s.bs b with
   |none=>rw[hb] at hp;cases hp
   |some cs=>simp only[aw];rw[bD (hother0 _ (h.blt hb) (hbox b cs hb))]
 refine⟨⟨hos.trans h.fr.os,htp.trans h.fr.tape,hout.trans h.fr.output,ZP h.fr.size hsize,h.fr.le,λB' hB' hn=>?_,h.fr.mem,h.fr.kn.keep (hother0 _ h.fr.kn.lt (h.fr.kn.ne hM))⟩,λb i v hv=>?_,h.nt,λp x hp=>?_,λb j x hp=>?_,λb cs hb=>?_,λb cs hb=>?_,λb b' cs cs' hb hb' e=>?_,λp z l hp=>?_,h.clinj,λp B' hB' b cs hb=>?_,λp B' hB'=>⟨ZV (h.cllt p B' hB').1 hsize,(h.cllt p B' hB').2⟩,h.lo,by simp only[hlen];exact h.len,h.sig,hsp⟩
 .have:B'≠B:=λe=>by
   subst e;rcases hm with h1|h1
   .exact hn h1
   .omega
  rw[hother0 B' (ZV hB' h.fr.size) this];exact h.fr.heap B' hB' hn
 .have h1:=h.ok b i v hv
  have:b≠B:=λe=>by
   subst e;rw[hM] at hv;cases hv
  simp only[Hp.of] at h1|-;rw[bD (hother0 b (Hp.lt h.ok hv) this)];exact h1
 .rw [hat] at hp;rw[hval p x hp,hlen];exact h.val p x hp
 .rw [hat] at hp;rw[hval _ x hp];exact h.one b j x hp
 .rw [hbc] at hb;obtain⟨vs,T,h1,h2⟩:=h.box b cs hb;exact⟨vs,T,by rw[hother0 _ (hlt _ _ h1) (hbox b cs hb)];exact h1,h2⟩
 .rw [hbc] at hb;exact h.bmem b cs hb
 .rw [hbc] at hb hb';exact h.inj b b' cs cs' hb hb' e
 .rw [hat] at hp;obtain⟨ad,k,h1,h2,h3⟩:=h.own p z l hp;refine⟨ad,k,by rw[hval p _ hp];exact h1,h2,?_⟩
  rcases h3 with h3|⟨B',hB',h4,h5⟩
  .exact .inl h3
  .obtain ⟨vs,T,h6,h7⟩:=h5.cells;exact .inr ⟨B',hB',h4,h5.lt,⟨vs,T,by rw[hother0 B' (hlt _ _ h6) (λe=>hown p z l hp (e▸hB'))];exact h6,h7⟩,h5.free,h5.mine⟩
 .rw [hbc] at hb;exact h.clbox p B' hB' b cs hb
theorem RS.Fi(h:RS E G s a w){b:Nat}{x:TB}(hb:s.bs[b]? =some (.tab x)){B:Nat}{o o':Obj}(hr:(B,B,o)∈x.rows){w':World}(hw:w'.heap[B]? =some o')(hos:w'.os=w.os)(htp:w'.tape=w.tape)(hout:w'.output=w.output)(hsize:w.heap.size<=w'.heap.size)
  (hother:∀k,k<w.heap.size->k≠B->w'.heap[k]? =w.heap[k]?):RS E G ⟨s.env,s.bs.set b (.tab ⟨x.es,x.c,(B,B,o')::x.rows.filter λq=>decide (q.2.1≠B)⟩),s.lo⟩ a w':=by
 obtain⟨r1,r2,r3⟩:=h.qi hb hr;have hlb:ag s.bs b=some x.lb:=by simp[ag,hb,Box.lb?]
 have hB:B<w.heap.size:=(h.cllt _ _ r2).1;refine h.Lc hB hos htp hout hsize hother r3 (λc cs hc=>h.clbox _ _ r2 c cs hc) (λp z l hp hcl=>?_) (h.cllt _ _ r2).2 (by simp) (cx hb rfl rfl) ⟨λB0 o0 hs=>?_,λc z hc=>?_,λc c' z z' hc hc' e=>?_,h.sp.ds,λc z hc j B0 o0 hj=>?_⟩
 .have:=h.clinj _ _ _ hcl r2;subst this;simp[St.at,aa,hb,Box.cs?] at hp
 .have key:w.heap[B0]? =some o0/\(∀p,G.cl p≠some B0)/\(E.FP B0\/E.w.heap.size<=B0):=by
   rcases hs with ⟨c,z,hc,e,ho⟩|⟨hm,ho⟩
   .rw [aH hb rfl] at hc;split at hc
    .rename_i ec;cases hc;subst ec;exact h.sp.ob B0 o0 (.inl ⟨c,x.lb,hlb,e,ho⟩)
    .exact h.sp.ob B0 o0 (.inl ⟨c,z,hc,e,ho⟩)
   .exact h.sp.ob B0 o0 (.inr ⟨hm,ho⟩)
  obtain⟨h4,h5,h6⟩:=key;exact⟨by rw[hother B0 (zi.1 h4).1 (λe=>h5 _ (e▸r2))];exact h4,h5,h6⟩
 .rw [aH hb rfl] at hc;split at hc
  .cases hc;exact⟨(λ_ _ _ h=>by cases h),zJ _,λc hc=>absurd hc (Zm _)⟩
  .exact h.sp.base c z hc
 .rw [aH hb rfl] at hc hc';split at hc
  .rename_i ec;split at hc'
   .rename_i ec';rw[ec,ec']
   .rename_i ec';rw[ec] at e;exact absurd (h.sp.inj c' b z' _ hc' hlb e.symm) ec'
  .rename_i ec;split at hc'
   .rename_i ec';rw[ec'] at e;exact absurd (h.sp.inj c b z _ hc hlb e) ec
   .exact h.sp.inj c c' z z' hc hc' e
 .have old:∀y,ag s.bs c=some y->(j,B0,o0)∈y.rs->B0≠B->w'.heap[B0]? =some o0/\G.cl (.bx c j)=some B0/\∀k,G.M B0 k=none:=λy hy hjy hne=>by
   obtain⟨h4,h5,h6⟩:=h.sp.rows c y hy j B0 o0 hjy;exact⟨by rw[hother B0 (h.cllt _ _ h5).1 hne];exact h4,h5,h6⟩
  rw[aH hb rfl] at hc;split at hc
  .rename_i ec;cases hc;subst ec;rcases zI.1 hj with e|hj
   .cases e;exact⟨hw,r2,r3⟩
   .obtain ⟨h7,h8⟩:=zp.1 hj;exact old _ hlb h7 (of_decide_eq_true h8)
  .rename_i ec;refine old z hc hj λe=>?_;obtain⟨_,h5,_⟩:=h.sp.rows c z hc j B0 o0 hj;rw[e] at h5;have:=h.clinj _ _ _ h5 r2;cases this;exact ec rfl
theorem RS.Ib(h:RS E G s a w){b:Nat}{x:TB}(hb:s.bs[b]? =some (.tab x))(hj0:∀q∈x.rows,q.1=q.2.1){B:Nat}{o:Obj}(ho:w.heap[B]? =some o)(hk:o.isCells=true)(hm:E.FP B\/E.w.heap.size<=B)(hM:∀k,G.M B k=none)(hfree:∀p,G.cl p≠some B)(hbox:∀c cs,aa s.bs c=some cs->G.σ c≠B):
  RS E {G with cl:=λp=>if p=.bx b B then some B else G.cl p} ⟨s.env,s.bs.set b (.tab ⟨x.es,x.c,(B,B,o)::x.rows⟩),s.lo⟩ a w:=by
 have hlb:ag s.bs b=some x.lb:=by simp[ag,hb,Box.lb?]
 have hlen:(s.bs.set b (.tab ⟨x.es,x.c,(B,B,o)::x.rows⟩)).length=s.bs.length:=by simp
 have hbc:=cx (y:=.tab ⟨x.es,x.c,(B,B,o)::x.rows⟩) hb rfl rfl
 have hat:∀p,(⟨s.env,s.bs.set b (.tab ⟨x.es,x.c,(B,B,o)::x.rows⟩),s.lo⟩:St).at p=s.at p:=λp=>by
  cases p with
  |sl t=>rfl
  |bx c j=>simp only[St.at,hbc]
 have hno:∀p y,s.at p=some y->p≠.bx b B:=λp y hp e=>by
  subst e;simp[St.at,aa,hb,Box.cs?] at hp
 have hsz:=(zi.1 ho).1
 have hcl:∀p B',(if p=.bx b B then some B else G.cl p)=some B'->(p=.bx b B/\B'=B)\/(p≠.bx b B/\G.cl p=some B'):=λp B' hp=>by
  split at hp
  .rename_i e;cases hp;exact .inl ⟨e,rfl⟩
  .rename_i e;exact .inr ⟨e,hp⟩
 refine⟨h.fr,h.ok,h.nt,λp y hp=>?_,λc j y hp=>?_,λc cs hc=>?_,λc cs hc=>?_,λc c' cs cs' hc hc' e=>?_,λp z l hp=>?_,λp q B' hp hq=>?_,λp B' hp c cs hc=>?_,λp B' hp=>?_,h.lo,by rw[hlen];exact h.len,h.sig,⟨λB0 o0 hs=>?_,λc z hc=>?_,λc c' z z' hc hc' e=>?_,h.sp.ds,λc z hc j B0 o0 hj=>?_⟩⟩
 .rw [hat] at hp;rw[hlen];exact h.val p y hp
 .rw [hat] at hp;exact h.one c j y hp
 .rw [hbc] at hc;exact h.box c cs hc
 .rw [hbc] at hc;exact h.bmem c cs hc
 .rw [hbc] at hc hc';exact h.inj c c' cs cs' hc hc' e
 .rw [hat] at hp;obtain⟨ad,k,h1,h2,h3⟩:=h.own p z l hp;refine⟨ad,k,h1,h2,h3.imp_right λ⟨B',h4,h5⟩=>⟨B',?_,h5⟩⟩;simp only[if_neg (hno p _ hp)];exact h4
 .rcases hcl p B' hp with ⟨e1,e2⟩|⟨e1,e2⟩<;>rcases hcl q B' hq with ⟨e3,e4⟩|⟨e3,e4⟩
  .rw [e1,e3]
  .exact absurd (e2▸e4) (hfree q)
  .exact absurd (e4▸e2) (hfree p)
  .exact h.clinj p q B' e2 e4
 .rw [hbc] at hc;rcases hcl p B' hp with ⟨_,e2⟩|⟨_,e2⟩
  .rw [e2];exact hbox c cs hc
  .exact h.clbox p B' e2 c cs hc
 .rcases hcl p B' hp with ⟨_,e2⟩|⟨_,e2⟩
  .rw [e2];exact⟨hsz,hm⟩
  .exact h.cllt p B' e2
 .have key:Spc G.σ s.bs a.defers B0 o0:=by
   rcases hs with ⟨c,z,hc,e,ho⟩|⟨hm,ho⟩
   .rw [aH hb rfl] at hc;split at hc
    .rename_i ec;cases hc;subst ec;exact .inl ⟨c,x.lb,hlb,e,ho⟩
    .exact .inl ⟨c,z,hc,e,ho⟩
   .exact .inr ⟨hm,ho⟩
  obtain⟨h4,h5,h6⟩:=h.sp.ob B0 o0 key;refine⟨h4,λp hp=>?_,h6⟩;rcases hcl p B0 hp with ⟨_,e2⟩|⟨_,e2⟩
  .rw [e2,ho] at h4;cases h4;rw[key.qB] at hk;cases hk
  .exact h5 p e2
 .rw [aH hb rfl] at hc;split at hc
  .cases hc;exact⟨(λ_ _ _ h=>by cases h),zJ _,λc hc=>absurd hc (Zm _)⟩
  .exact h.sp.base c z hc
 .rw [aH hb rfl] at hc hc';split at hc
  .rename_i ec;split at hc'
   .rename_i ec';rw[ec,ec']
   .rename_i ec';rw[ec] at e;exact absurd (h.sp.inj c' b z' _ hc' hlb e.symm) ec'
  .rename_i ec;split at hc'
   .rename_i ec';rw[ec'] at e;exact absurd (h.sp.inj c b z _ hc hlb e) ec
   .exact h.sp.inj c c' z z' hc hc' e
 .have old:∀y,ag s.bs c=some y->(j,B0,o0)∈y.rs->(c=b->j≠B)->w.heap[B0]? =some o0/\(if (Pl.bx c j)=.bx b B then some B else G.cl (.bx c j))=some B0/\∀k,G.M B0 k=none:=λy hy hjy hne=>by
   obtain⟨h4,h5,h6⟩:=h.sp.rows c y hy j B0 o0 hjy;refine⟨h4,?_,h6⟩;rw[if_neg (λe=>by cases e;exact hne rfl rfl)];exact h5
  rw[aH hb rfl] at hc;split at hc
  .rename_i ec;cases hc;subst ec;rcases zI.1 hj with e|hj
   .cases e;exact⟨ho,if_pos rfl,hM⟩
   .refine old _ hlb hj λ_ e=>?_;have h8:=hj0 _ hj;obtain⟨_,h5,_⟩:=h.sp.rows c _ hlb j B0 o0 hj;exact hfree _ (h5.trans (congrArg some (show B0=B from h8.symm.trans e)))
  .rename_i ec;exact old z hc hj λe=>absurd e ec
end
theorem Jk{M:Hp}{σ:Nat->Nat}{n vb:Nat}{a:AV}{at_:Int}{u:Value}{args:List Value}(hl:args.length=3)(ha:∀v,RV M σ n a v->v=u)(hav:∀j (h:j<[a,AV.int .i64 at_,AV.bsl vb 1 1].length) v,args[j]? =some v->RV M σ n ([a,AV.int .i64 at_,AV.bsl vb 1 1][j]) v):args=[u,.int .i64 at_,.slice (some ⟨σ vb,0,none⟩) 1 1]:=by
 match args,hl with
 |[x,y,z],_=>
  have h0:=hav 0 (by simp) x rfl
  have h1:=hav 1 (by simp) y rfl
  have h2:=hav 2 (by simp) z rfl
  simp only[ZS,Zj] at h0 h1 h2;obtain⟨ad,e,_,_,_,he⟩:=h2.cd;rw[ha _ h0,h1.aA,e,he (by omega)]
theorem nL{w:World}{B:Nat}{vs:List Value}{T:TypeId}(h:w.heap[B]? =some (.cells vs.toArray T (0,0)))(j:Nat):w.cell? ⟨B,j,none⟩=vs[j]?/\w.frozen? ⟨B,j,none⟩=false:=by
 constructor
 .simp [World.cell?,h]
 .simp [World.frozen?,h]
def gY(l:List Int)(k:Nat)(id:Int):List Int:=l.take k++id::l.drop k
theorem pU(l:List Int)(k:Nat)(id:Int):(gY l k id).length=l.length+1:=by
 simp only[gY,zC,zY,zo,Zg];omega
theorem Hn{ids:List Int}{junk:List Value}{k:Nat}{id:Int}(hk:k<=ids.length)(hj:junk≠[]):
  qJ (qJ (ids.map (Value.int .i64)++junk) (k+1) ((ids.map (Value.int .i64)).drop k)) k [.int .i64 id]=(gY ids k id).map (Value.int .i64)++junk.drop 1:=by
 have hjl:0<junk.length:=List.length_pos_iff.2 hj;refine Zr λj=>?_;rw[lp _ _ _ _ (by rw[tR];simp;omega),lp _ _ _ _ (by simp;omega)]
 simp only[zY,ZR,Zg,zF,gY]
 by_cases h1:j=k
 .subst h1;rw[if_pos (by omega),yR,zK (by simp;omega),ZG,za (by simp;omega)]
  simp[yL hk]
 .rw [if_neg (by omega)]
  by_cases h2:k+1<=j/\j<k+1+(ids.length-k)
  .rw [if_pos h2,List.getElem?_drop,zK (by simp;omega),ZG,ZG,za (by simp;omega)]
   simp only[zo,yL hk];rw[show j-k=(j-(k+1))+1 by omega,List.getElem?_cons_succ,List.getElem?_drop]
  .rw [if_neg h2]
   by_cases h3:j<k
   .rw [zK (by simp;omega),zK (by simp;omega),ZG,ZG,zK (by simp;omega),List.getElem?_take_of_lt h3]
   .rw [za (by simp;omega),za (by simp;omega),List.getElem?_drop]
    simp only[zF,zC,zo,zY,Zg,yL hk];congr 1;omega
end Go.AM
namespace Go.AM
open Go.CK Go.RowKit Go.Proofs
theorem aT{b:Nat}:∀(us:List Value) (o:Nat) (w:World),(w.setCells b o us).os=w.os/\(w.setCells b o us).tape=w.tape/\(w.setCells b o us).output=w.output/\(w.setCells b o us).heap.size=w.heap.size/\∀k,k≠b->(w.setCells b o us).heap[k]? =w.heap[k]?
 |[],o,w=>⟨rfl,rfl,rfl,rfl,λ_ _=>rfl⟩
 |v::r,o,w=>by
  obtain⟨h1,h2,h3,h4,h5⟩:=aT r (o+1) (w.setCell ⟨b,o,none⟩ v) (b:=b);rw[World.setCells];exact⟨h1,h2,h3,h4.trans (by simp[World.setCell]),λk hk=>(h5 k hk).trans (Below.heap_setCell _ _ _ _ hk)⟩
section
variable{E:Entry}{G:Gh}{a0:Act}{w:World}{bs:List Box}{lo:Nat}
theorem RS.uK(hrs:RS E G ⟨[],bs,lo⟩ a0 w):RS (bB G bs w 1) {G with cl:=fF G.cl} ⟨[],bs,bs.length⟩ ⟨#[.tuple #[]],[]⟩ w:=
 hrs.pw (bB G bs w 1) ⟨#[.tuple #[]],[]⟩ (Fr.refl _ _ _ hrs.fr.kn) rfl bs.length rfl (zG _) (λ_ _=>rfl) (λB hB=>.inl hB) rfl
theorem D5(hrs:RS E G ⟨[],bs,lo⟩ a0 w){b:Nat}{x:TB}{l:List TR}{r:TR}(hb:bs[b]? =some (.tab x))(hx:ib x l)(hr:r∈l)(r':TR)(hk:r'.key=r.key)(hB:r'.B=r.B)(hc:r'.cap=r.cap){w':World}
  (h1:w'.heap[r.B]? =some (.cells r'.ae.toArray r'.T (0,0))) (hos:w'.os=w.os) (htp:w'.tape=w.tape) (hout:w'.output=w.output) (hsize:w'.heap.size=w.heap.size) (hother:∀k,k≠r.B->w'.heap[k]? =w.heap[k]?):
  ∃bs' G' x',fS x' l r'/\bs'=bs.set b (.tab x')/\RS (bB G bs w 1) G' ⟨[(0,r'.lit)],bs',bs.length⟩ ⟨#[r'.val],[]⟩ w':=by
 have h2:=hrs.uK.Fi (b:=b) (x:=x) hb (B:=r.B) (o':=.cells r'.ae.toArray r'.T (0,0)) (hx.rows r hr) h1 hos htp hout (by omega) (λk _ hk=>hother k hk)
 refine⟨_,_,_,hx.Kp hr hk hB (by rw[hc];exact hx.cap r hr),?_,h2.put (k:=0) Zz (x:=r'.lit) (v:=r'.val) (.flat (.lit _ _ _))⟩
 simp only[TR.row,hB]
theorem Gy(hrs:RS E G ⟨[],bs,lo⟩ a0 w){b:Nat}{x:TB}{l:List TR}(hb:bs[b]? =some (.tab x))(hx:ib x l)(r':TR)(hB:r'.B=w.heap.size)(hc:r'.cap<=9223372036854775807){w':World}
  (h1:w'.heap[w.heap.size]? =some (.cells r'.ae.toArray r'.T (0,0))) (hos:w'.os=w.os) (htp:w'.tape=w.tape) (hout:w'.output=w.output) (hold:∀k,k<w.heap.size->w'.heap[k]? =w.heap[k]?):
  ∃bs' G' x',fS x' l r'/\bs'=bs.set b (.tab x')/\RS (bB G bs w 1) G' ⟨[(0,r'.lit)],bs',bs.length⟩ ⟨#[r'.val],[]⟩ w':=by
 have h0:=hrs.uK;have hsz:=(zi.1 h1).1
 have h2:=h0.grow (M':=G.M) (w':=w') ⟨hos,htp,hout,by omega,Hp.le_refl _,λB hB _=>hold B hB,λ_ _ _ _=>rfl⟩ (λB o u hu=>by
  have h3:=hrs.ok B o u hu;simp only[Hp.of] at h3|-;rw[bD (hold B (Hp.lt hrs.ok hu))];exact h3)
 have h3:=h2.Ib (b:=b) (x:=x) hb hx.jB (B:=w.heap.size) h1 rfl (.inr (zG _)) (λk=>by
  cases hq:G.M w.heap.size k with
  |none=>rfl
  |some v=>exact absurd (Hp.lt hrs.ok hq) (Nat.lt_irrefl _)) (λp hp=>absurd (h0.cllt p _ hp).1 (Nat.lt_irrefl _)) (λc cs hc e=>absurd (h0.blt hc) (by rw[show ({G with cl:=fF G.cl}:Gh).σ c=w.heap.size from e];exact Nat.lt_irrefl _))
 refine⟨_,_,_,hx.Kr (r':=r') (λq hq e=>?_) hc,?_,h3.put (k:=0) Zz (x:=r'.lit) (v:=r'.val) (.flat (.lit _ _ _))⟩
 .have:=(hrs.cllt _ _ (hrs.qi hb (hx.rows q hq)).2.1).1;omega
 .simp only[TR.row,hB]
end
theorem Jh{ids:List Int}{k m:Nat}{id:Int}(hk:k<=ids.length):
  qJ (qJ ((ids.map (Value.int .i64)).take k++(List.replicate (ids.length+1-k) (Value.int .i64 0)++List.replicate m (Value.int .i64 0))) k [.int .i64 id]) (k+1) ((ids.map (Value.int .i64)).drop k)=(gY ids k id).map (Value.int .i64)++List.replicate m (Value.int .i64 0):=by
 refine Zr λj=>?_;have hl:((ids.map (Value.int .i64)).take k++(List.replicate (ids.length+1-k) (Value.int .i64 0)++List.replicate m (Value.int .i64 0))).length=ids.length+1+m:=by simp;omega
 rw[lp _ _ _ _ (by rw[tR,hl];simp;omega),lp _ _ _ _ (by rw[hl];simp;omega)]
 simp only[zY,ZR,Zg,zF,gY]
 by_cases h2:k+1<=j/\j<k+1+(ids.length-k)
 .rw [if_pos h2,List.getElem?_drop,zK (by simp;omega),ZG,ZG,za (by simp;omega)]
  simp only[zo,yL hk];rw[show j-k=(j-(k+1))+1 by omega,List.getElem?_cons_succ,List.getElem?_drop]
 .rw [if_neg h2]
  by_cases h1:j=k
  .subst h1;rw[if_pos (by omega),yR,zK (by simp;omega),ZG,za (by simp;omega)]
   simp[yL hk]
  .rw [if_neg (by omega)]
   by_cases h3:j<k
   .rw [zK (by simp;omega),zK (by simp;omega),List.getElem?_take_of_lt h3,ZG,ZG,zK (by simp;omega),List.getElem?_take_of_lt h3]
   .rw [za (by simp;omega),za (by simp;omega),za (by simp;omega)]
    simp only[zF,zC,zo,zY,Zg,zg,yL hk];congr 1;omega
theorem oF(n:Nat):(Builtin.zeroCells (Value.int .i64 0).cells n).toList=List.replicate n (Value.int .i64 0):=by
 refine Zr λj=>?_
 by_cases h:j<n
 .simp [Builtin.zeroCells,Value.cells,List.getElem?_replicate,Nat.mod_one,h]
 .simp [Builtin.zeroCells,Value.cells,List.getElem?_replicate,Nat.mod_one,h]
theorem Fa{bs:List Box}{b vb:Nat}{x:TB}{l:List TR}{r:TR}{k:Nat}{id:Int}(hb:bs[b]? =some (.tab x))(hx:ib x l)(hr:r∈l)(hv:bs[vb]? =some (.row [.int .i64 id]))(hk:k<=r.ids.length)(hn:r.ids.length<=1000000):
  AM.Sem Tryz.prog 106 [r.lit,.int .i64 (k:Nat),.bsl vb 1 1] bs λv bs'=>∃r' x',v=r'.lit/\r'.key=r.key/\r'.ids=gY r.ids k id/\fS x' l r'/\bs'=bs.set b (.tab x'):=by
 intro E G a0 w args lo hrs hlen hav;have hbc:aa bs vb=some [.int .i64 id]:=by simp[aa,hv,Box.cs?]
 obtain rfl:=Jk (u:=r.val) hlen (λv hv=>RV.mi hv) hav;obtain⟨vsv,Tv,hvh,hvl⟩:=hrs.box vb _ hbc;obtain⟨u,hu1,_,hu2⟩:=hrs.si hbc 0 (by simp)
 obtain rfl:u=.int .i64 id:=RV.aA hu2;obtain⟨hR1,hR2,hR3⟩:=hrs.qi hb (hx.rows r hr);have hne:G.σ vb≠r.B:=hrs.clbox _ _ hR2 vb _ hbc;have hcell:=nL hR1
 have hvs:∀j v,[Value.int .i64 id][j]? =some v->w.cell? ⟨G.σ vb,0+j,none⟩=some v:=λj v hj=>by
  match j,hj with
  |0,hj=>cases hj;exact hu1
 have hcs:∀j v,(r.ids.map (Value.int .i64))[j]? =some v->w.cell? ⟨r.B,0+j,none⟩=some v:=λj v hj=>by
  have hjl:=(zB.1 hj).1;rw[ZJ,(hcell j).1,TR.ae,zK hjl];exact hj
 have h1v:∀v∈[Value.int .i64 id],v.oneCell'=true:=λv hv=>by simp at hv;subst hv;rfl
 have h1c:∀v∈r.ids.map (Value.int .i64),v.oneCell'=true:=λv hv=>by obtain⟨q,_,rfl⟩:=zl.1 hv;rfl
 have hcap:=hx.cap r hr;have hvz:r.ae.length=r.cap:=by simp[TR.ae,TR.cap]
 have fin:∀(r':TR) (w':World),r'.key=r.key->r'.ids=gY r.ids k id->(∃bs' G' x',fS x' l r'/\bs'=bs.set b (.tab x')/\RS (bB G bs w 1) G' ⟨[(0,r'.lit)],bs',bs.length⟩ ⟨#[r'.val],[]⟩ w')->
   ∃v q bs' G',Ending.returned r'.val=.returned v/\(∃r' x',q=r'.lit/\r'.key=r.key/\r'.ids=gY r.ids k id/\fS x' l r'/\bs'=bs.set b (.tab x'))/\RS (bB G bs w 1) G' ⟨[(0,q)],bs',bs.length⟩ ⟨#[v],[]⟩ w':=λr' w' h1 h2 ⟨bs',G',x',h3,h4,h5⟩=>
  ⟨_,_,_,_,rfl,⟨r',x',rfl,h1,h2,h3,h4⟩,h5⟩
 have inP:∀w',r.junk≠[]->(∃us o,w'=(w.drew.setCells r.B (0+(k+1)) ((r.ids.map (Value.int .i64)).drop k)).setCells r.B (0+k) [.int .i64 id]\/(w'=w.setCells r.B (0+k) [.int .i64 id]/\k=r.ids.length/\us=0/\o=0))->
   ∃v q bs' G',Ending.returned (.slice (some ⟨r.B,0,none⟩) (r.ids.length+1) r.cap)=.returned v/\(∃r' x',q=r'.lit/\r'.key=r.key/\r'.ids=gY r.ids k id/\fS x' l r'/\bs'=bs.set b (.tab x'))/\RS (bB G bs w 1) G' ⟨[(0,q)],bs',bs.length⟩ ⟨#[v],[]⟩ w':=λw' hj hw'=>by
  have hjl:0<r.junk.length:=List.length_pos_iff.2 hj
  have hq:w'.heap[r.B]? =some (.cells ((gY r.ids k id).map (Value.int .i64)++r.junk.drop 1).toArray r.T (0,0))/\w'.os=w.os/\w'.tape=w.tape/\w'.output=w.output/\w'.heap.size=w.heap.size/\∀j,j≠r.B->w'.heap[j]? =w.heap[j]?:=by
   obtain⟨_,_,rfl|⟨rfl,hkn,_⟩⟩:=hw'
   .have s1:=cA (b:=r.B) ((r.ids.map (Value.int .i64)).drop k) r.ae (0+(k+1)) w.drew hR1;have s2:=cA (b:=r.B) [.int .i64 id] _ (0+k) _ s1.1;obtain⟨a1,a2,a3,a4,a5⟩:=aT (b:=r.B) ((r.ids.map (Value.int .i64)).drop k) (0+(k+1)) w.drew;obtain⟨b1,b2,b3,b4,b5⟩:=aT (b:=r.B) [.int .i64 id] (0+k) (w.drew.setCells r.B (0+(k+1)) ((r.ids.map (Value.int .i64)).drop k));refine⟨?_,b1.trans a1,b2.trans a2,b3.trans a3,b4.trans a4,λj hj=>(b5 j hj).trans (a5 j hj)⟩;rw[s2.1,TR.ae,ZJ,ZJ,Hn hk hj]
   .have s2:=cA (b:=r.B) [.int .i64 id] r.ae (0+k) w hR1;obtain⟨b1,b2,b3,b4,b5⟩:=aT (b:=r.B) [.int .i64 id] (0+k) w;refine⟨?_,b1,b2,b3,b4,b5⟩;have:=Hn (ids:=r.ids) (junk:=r.junk) (k:=k) (id:=id) hk hj;rw[show (r.ids.map (Value.int .i64)).drop k=[] from List.drop_eq_nil_of_le (by simp;omega)] at this
    rw[s2.1,TR.ae,ZJ,<-this];rfl
  obtain⟨q1,q2,q3,q4,q5,q6⟩:=hq;have hc2:(⟨r.key,gY r.ids k id,r.born,r.B,r.junk.drop 1,r.T⟩:TR).cap=r.cap:=by simp only[TR.cap,pU,Zg];omega
  have:=fin ⟨r.key,gY r.ids k id,r.born,r.B,r.junk.drop 1,r.T⟩ w' rfl rfl (D5 hrs hb hx hr ⟨r.key,gY r.ids k id,r.born,r.B,r.junk.drop 1,r.T⟩ rfl rfl hc2 q1 q2 q3 q4 q5 q6);simp only[TR.val,hc2,pU] at this;exact this
 have newP:∀w' gc,r.ids.length+1<=gc->gc<=9223372036854775807->w'.heap[w.heap.size]? =some (.cells ((gY r.ids k id).map (Value.int .i64)++List.replicate (gc-(r.ids.length+1)) (Value.int .i64 0)).toArray 3 (0,0))->w'.os=w.os->w'.tape=w.tape->w'.output=w.output->(∀j,j<w.heap.size->w'.heap[j]? =w.heap[j]?)->
   ∃v q bs' G',Ending.returned (.slice (some ⟨w.heap.size,0,none⟩) (r.ids.length+1) gc)=.returned v/\(∃r' x',q=r'.lit/\r'.key=r.key/\r'.ids=gY r.ids k id/\fS x' l r'/\bs'=bs.set b (.tab x'))/\RS (bB G bs w 1) G' ⟨[(0,q)],bs',bs.length⟩ ⟨#[v],[]⟩ w':=λw' gc g1 g2 q1 q2 q3 q4 q5=>by
  have hc2:(⟨r.key,gY r.ids k id,0,w.heap.size,List.replicate (gc-(r.ids.length+1)) (Value.int .i64 0),3⟩:TR).cap=gc:=by simp only[TR.cap,pU,zg];omega
  have:=fin ⟨r.key,gY r.ids k id,0,w.heap.size,List.replicate (gc-(r.ids.length+1)) (Value.int .i64 0),3⟩ w' rfl rfl (Gy hrs hb hx ⟨r.key,gY r.ids k id,0,w.heap.size,List.replicate (gc-(r.ids.length+1)) (Value.int .i64 0),3⟩ rfl (by rw[hc2];exact g2) q1 q2 q3 q4 q5)
  simp only[TR.val,hc2,pU] at this;exact this
 by_cases hj:r.junk=[]
 .have hc:r.cap=r.ids.length:=by simp[TR.cap,hj]
  have hg1:=grownCap_ge w (r.ids.length+1) r.cap 3;have hg2:=grownCap_le_maxLen w (r.ids.length+1) r.cap 3 (by unfold maxLen;omega)
  unfold maxLen at hg2;rcases zu k r.ids.length with hlt|hge
  .refine (Any2.slices_Insert_int_grow Tryz.iV r.B 0 r.ids.length r.cap k (G.σ vb) 0 1 1 (r.ids.map (Value.int .i64)) [.int .i64 id] w hlt (by omega) (by omega) (by omega) (by omega) (by simp) rfl hcs hvs h1c h1v).mono ?_
   rintro e w' ⟨rfl,hw'⟩;have hw':w'=(((w.alloc (.cells (((r.ids.map (Value.int .i64)).take k).toArray++Builtin.zeroCells (Value.int .i64 0).cells (r.ids.length+1-k)++Builtin.zeroCells (Value.int .i64 0).cells (grownCap w (r.ids.length+1) r.cap 3-(r.ids.length+1))) 3)).drew.setCells w.heap.size k [.int .i64 id]).drew).setCells w.heap.size (k+1) ((r.ids.map (Value.int .i64)).drop k):=hw';refine newP w' (grownCap w (r.ids.length+1) r.cap 3) hg1 (by omega) ?_ ?_ ?_ ?_ ?_
   .have hrow:((r.ids.map (Value.int .i64)).take k).toArray++Builtin.zeroCells (Value.int .i64 0).cells (r.ids.length+1-k)++Builtin.zeroCells (Value.int .i64 0).cells (grownCap w (r.ids.length+1) r.cap 3-(r.ids.length+1))=((r.ids.map (Value.int .i64)).take k++(List.replicate (r.ids.length+1-k) (Value.int .i64 0)++List.replicate (grownCap w (r.ids.length+1) r.cap 3-(r.ids.length+1)) (Value.int .i64 0))).toArray:=by
     apply Array.ext';simp only[Array.toList_append,oF,zh]
    rw[hrow] at hw';have a0:=heap_alloc_new w (.cells ((r.ids.map (Value.int .i64)).take k++(List.replicate (r.ids.length+1-k) (Value.int .i64 0)++List.replicate (grownCap w (r.ids.length+1) r.cap 3-(r.ids.length+1)) (Value.int .i64 0))).toArray 3);have s1:=cA (b:=w.heap.size) [.int .i64 id] _ k (w.alloc (.cells ((r.ids.map (Value.int .i64)).take k++(List.replicate (r.ids.length+1-k) (Value.int .i64 0)++List.replicate (grownCap w (r.ids.length+1) r.cap 3-(r.ids.length+1)) (Value.int .i64 0))).toArray 3)).drew a0;have s2:=cA (b:=w.heap.size) ((r.ids.map (Value.int .i64)).drop k) _ (k+1) ((w.alloc (.cells ((r.ids.map (Value.int .i64)).take k++(List.replicate (r.ids.length+1-k) (Value.int .i64 0)++List.replicate (grownCap w (r.ids.length+1) r.cap 3-(r.ids.length+1)) (Value.int .i64 0))).toArray 3)).drew.setCells w.heap.size k [.int .i64 id]).drew s1.1;rw[hw',s2.1,Jh hk]
   .rw [hw',(aT _ _ _).1];exact(aT _ _ _).1
   .rw [hw',(aT _ _ _).2.1];exact(aT _ _ _).2.1
   .rw [hw',(aT _ _ _).2.2.1];exact(aT _ _ _).2.2.1
   .intro j hj;rw[hw',(aT _ _ _).2.2.2.2 j (by omega)]
    exact((aT _ _ _).2.2.2.2 j (by omega)).trans (Below.heap_alloc _ _ _ hj)
  .have hkn:k=r.ids.length:=by omega
   subst hkn;refine(Any2.slices_Insert_int_end_grow Tryz.iV (some ⟨r.B,0,none⟩) r.ids.length r.cap (G.σ vb) 0 1 1 (r.ids.map (Value.int .i64)) [.int .i64 id] w (by omega) (by omega) (by omega) (by omega) (by simp) rfl (λe=>by cases e) (λa ha j v hj=>by cases ha;rw[Addr.add_lit];exact hcs j v hj) hvs h1v).mono ?_
   rintro e w' ⟨rfl,hw'⟩;have hw':w'=w.drew.alloc (.cells ((r.ids.map (Value.int .i64)++[Value.int .i64 id]).toArray++Builtin.zeroCells (Value.int .i64 0).cells (grownCap w (r.ids.length+1) r.cap 3-(r.ids.length+1))) 3):=hw';refine newP w' (grownCap w (r.ids.length+1) r.cap 3) hg1 (by omega) ?_ ?_ ?_ ?_ ?_
   .have hrow:(r.ids.map (Value.int .i64)++[Value.int .i64 id]).toArray++Builtin.zeroCells (Value.int .i64 0).cells (grownCap w (r.ids.length+1) r.cap 3-(r.ids.length+1))=((gY r.ids r.ids.length id).map (Value.int .i64)++List.replicate (grownCap w (r.ids.length+1) r.cap 3-(r.ids.length+1)) (Value.int .i64 0)).toArray:=by
     apply Array.ext';simp[oF,gY]
    rw[hw',hrow];exact heap_alloc_new w.drew _
   .rw [hw'];rfl
   .rw [hw'];rfl
   .rw [hw'];rfl
   .intro j hj;rw[hw'];exact Below.heap_alloc w.drew _ _ hj
 .have hjl:0<r.junk.length:=List.length_pos_iff.2 hj;have hroom:r.ids.length+1<=r.cap:=by simp[TR.cap];omega
  have hsp:∀j,j<r.cap->(w.cell? ⟨r.B,0+j,none⟩).isSome=true/\w.frozen? ⟨r.B,0+j,none⟩=false:=λj hjc=>by
   rw[ZJ];exact⟨by rw[(hcell j).1,zA (by omega)];rfl,(hcell j).2⟩
  rcases zu k r.ids.length with hlt|hge
  .refine (Any2.slices_Insert_int_shift Tryz.iV r.B 0 r.ids.length r.cap k (G.σ vb) 0 1 1 (r.ids.map (Value.int .i64)) [.int .i64 id] w hlt (by omega) hroom hcap hne (by simp) rfl hcs (λj hj=>(hsp j (by omega)).1) (λj hj=>(hsp j (by omega)).2) hvs h1c h1v Tv r.T vsv.size r.ae.length (by simp[World.shape?,hvh]) (by simp[World.shape?,hR1]) (by omega) (by simp[World.frozen?,hvh]) (by simp[World.frozen?,hvh])).mono ?_
   rintro e w' ⟨rfl,rfl⟩;exact inP _ hj ⟨0,0,.inl rfl⟩
  .have hkn:k=r.ids.length:=by omega
   subst hkn;refine(Any2.slices_Insert_int_end_room Tryz.iV r.B 0 r.ids.length r.cap (G.σ vb) 0 1 1 [.int .i64 id] w (by omega) hroom hcap rfl (λj hj=>by rw[Zn];exact(hsp _ (by omega)).1) (λj hj=>by rw[Zn];exact(hsp _ (by omega)).2) hvs h1v).mono ?_
   rintro e w' ⟨rfl,rfl⟩;exact inP _ hj ⟨0,0,.inr ⟨rfl,rfl,rfl,rfl⟩⟩
theorem Br{M:Hp}{σ:Nat->Nat}{n vb:Nat}{a:AV}{at_:Int}{args:List Value}(hl:args.length=3)(hav:∀j (h:j<[a,AV.int .i64 at_,AV.bsl vb 1 1].length) v,args[j]? =some v->RV M σ n ([a,AV.int .i64 at_,AV.bsl vb 1 1][j]) v):∃u,RV M σ n a u/\args=[u,.int .i64 at_,.slice (some ⟨σ vb,0,none⟩) 1 1]:=by
 match args,hl with
 |[x,y,z],_=>
  have h0:=hav 0 (by simp) x rfl
  have h1:=hav 1 (by simp) y rfl
  have h2:=hav 2 (by simp) z rfl
  simp only[ZS,Zj] at h0 h1 h2;obtain⟨ad,e,_,_,_,he⟩:=h2.cd;exact⟨x,h0,by rw[h1.aA,e,he (by omega)]⟩
theorem xr{bs:List Box}{b vb:Nat}{x:TB}{l:List TR}(key:ByteArray){id:Int}(hb:bs[b]? =some (.tab x))(hx:ib x l)(hv:bs[vb]? =some (.row [.int .i64 id])):
  AM.Sem Tryz.prog 106 [.sl .full [],.int .i64 0,.bsl vb 1 1] bs λv bs'=>∃r' x',v=r'.lit/\r'.key=key/\r'.ids=[id]/\fS x' l r'/\bs'=bs.set b (.tab x'):=by
 intro E G a0 w args lo hrs hlen hav;have hbc:aa bs vb=some [.int .i64 id]:=by simp[aa,hv,Box.cs?]
 obtain⟨q,hq,rfl⟩:=Br hlen hav;obtain⟨ad,kq,_,_,_,rfl,_,_,_,hkq,_⟩:=hq.cq;obtain rfl:kq=0:=hkq rfl;obtain⟨u,hu1,_,hu2⟩:=hrs.si hbc 0 (by simp)
 obtain rfl:u=.int .i64 id:=RV.aA hu2
 have hvs:∀j v,[Value.int .i64 id][j]? =some v->w.cell? ⟨G.σ vb,0+j,none⟩=some v:=λj v hj=>by
  match j,hj with
  |0,hj=>cases hj;exact hu1
 have h1v:∀v∈[Value.int .i64 id],v.oneCell'=true:=λv hv=>by simp at hv;subst hv;rfl
 have hg1:=grownCap_ge w (0+1) 0 3;have hg2:=grownCap_le_maxLen w (0+1) 0 3 (by unfold maxLen;omega)
 unfold maxLen at hg2;refine(Any2.slices_Insert_int_end_grow Tryz.iV ad 0 0 (G.σ vb) 0 1 1 [] [.int .i64 id] w (by omega) (by omega) (by omega) (by omega) rfl rfl (λ_=>rfl) (λa ha j v hj=>by simp at hj) hvs h1v).mono ?_
 rintro e w' ⟨rfl,hw'⟩;have hw':w'=w.drew.alloc (.cells (([]++[Value.int .i64 id]).toArray++Builtin.zeroCells (Value.int .i64 0).cells (grownCap w (0+1) 0 3-(0+1))) 3):=hw';have hc2:(⟨key,[id],0,w.heap.size,List.replicate (grownCap w (0+1) 0 3-(0+1)) (Value.int .i64 0),3⟩:TR).cap=grownCap w (0+1) 0 3:=by simp only[TR.cap,zY,ZR,zg];omega
 have hrow:([]++[Value.int .i64 id]).toArray++Builtin.zeroCells (Value.int .i64 0).cells (grownCap w (0+1) 0 3-(0+1))=(⟨key,[id],0,w.heap.size,List.replicate (grownCap w (0+1) 0 3-(0+1)) (Value.int .i64 0),3⟩:TR).ae.toArray:=by
  apply Array.ext';simp[oF,TR.ae]
 rw[hrow] at hw';subst hw';obtain⟨bs',G',x',h1,h2,h3⟩:=Gy (w':=w.drew.alloc (.cells (⟨key,[id],0,w.heap.size,List.replicate (grownCap w (0+1) 0 3-(0+1)) (Value.int .i64 0),3⟩:TR).ae.toArray 3)) hrs hb hx ⟨key,[id],0,w.heap.size,List.replicate (grownCap w (0+1) 0 3-(0+1)) (Value.int .i64 0),3⟩ rfl (by rw[hc2];omega) (heap_alloc_new w.drew _) rfl rfl rfl (λj hj=>Below.heap_alloc w.drew _ _ hj)
 refine⟨_,_,bs',G',?_,⟨_,x',rfl,rfl,rfl,h1,h2⟩,h3⟩;simp only[TR.val,hc2];rfl
theorem C3{E:Entry}{G:Gh}{a0:Act}{w w':World}{bs:List Box}{lo:Nat}(hs:RS E G ⟨[],bs,lo⟩ a0 w){zs:List Int}(hz:zs.length<=lim){v:Value}{T:TypeId}(hrow:w'.ownsRow w.heap.size T 1 v zs.length (zs.map (Value.int .i64)))(hb:Below w.heap.size w w'):
  ∃G',RS (bB G bs w 1) G' ⟨[(0,slA bF zs)],bs,bs.length⟩ ⟨#[v],[]⟩ w':=by
 have h0:=hs.uK;have hMlt:∀B o u,G.M B o=some u->B<w.heap.size:=λB o u hu=>Hp.lt hs.ok hu
 have hle:G.M.le (G.M.plus w w'):=λB o u hu=>by
  unfold Hp.plus;rw[if_neg (by have:=hMlt B o u hu;omega)];exact hu
 have hok:(G.M.plus w w').le (Hp.of w'):=λB o u hu=>by
  unfold Hp.plus at hu;split at hu
  .exact hu
  .exact (hb.cell (p:=⟨B,o,none⟩) (hMlt B o u hu)).trans (hs.ok _ _ _ hu)
 have h1:=h0.grow (M':=G.M.plus w w') (w':=w') ⟨hb.os,hb.tape,hb.output,hb.size,hle,λB hB _=>hb.block B hB,λB hB _ o=>by unfold Hp.plus;rw[if_neg (by omega)]⟩ hok
 refine⟨_,h1.put (k:=0) Zz (x:=slA bF zs) (.flat ?_)⟩;rcases hrow.2 with ⟨rfl,hz0⟩|⟨g,cap,cur,rfl,hg1,hg2,hg3,hg4,hg5,hg6⟩
 .have:zs=[]:=zL hz0;subst this;exact FV.gl (l:=[]) (B:=0) (off:=0) (sz:=1) (by simp) (zG _) (zJ _) (by simp) (λh=>absurd rfl h) (λi hi=>by cases hi)
 .have hel:fV (G.M.plus w w') g 0 1 (zs.map bF):=λi hi=>by
   have hi':i<zs.length:=by simpa using hi
   refine⟨by simp[bF,AV.cells],λj hj=>?_⟩
   have hj0:j=0:=by simp[bF,AV.cells] at hj;omega
   subst hj0;have hlt:i<cur.size:=by omega
   have hcur:cur[i]? =some (.int .i64 zs[i]):=by
    have h1:(cur.toList.take (zs.length*1))[i]? =(zs.map (Value.int .i64))[i]?:=by rw[hg6]
    rw[List.getElem?_take_of_lt (by omega)] at h1
    simpa[hi'] using h1
   refine⟨.int .i64 zs[i],?_,rfl,?_⟩
   .unfold Hp.plus;rw[if_pos hg1];simp only[World.cell?,hg2];simpa using hcur
   .simp only[ZE,bF,AV.cells];exact .int _ _
  have:=FV.gl (M:=G.M.plus w w') (o:=.no) (l:=zs.map bF) (a:=some ⟨g,0,none⟩) (k:=cap) (B:=g) (off:=0) (sz:=1) (by simp) (by simpa using hg3) (by simpa using hz) (by simp) (λ_=>rfl) hel
  rw[zF] at this;exact this
theorem Gz{bs:List Box}{b:Nat}{x:TB}{l:List TR}{r:TR}(hb:bs[b]? =some (.tab x))(hx:ib x l)(hr:r∈l)(hn:r.ids.length<=1000000):
  AM.Sem Tryz.prog 44 [r.lit] bs λv bs'=>v=slA bF r.ids/\bs'=bs:=by
 intro E G a0 w args lo hrs hlen hav
 obtain rfl:args=[r.val]:=by
  match args,hlen with
  |[u],_=>rw[RV.mi (hav 0 (by simp) u rfl)];rfl
 obtain⟨hR1,hR2,hR3⟩:=hrs.qi hb (hx.rows r hr);have hcell:=nL hR1;refine(Any.slices_Clone_int Tryz.Dk r.B 0 r.ids.length r.cap r.ids w (zG _) (by omega) (λj hj=>?_)).mono ?_
 .rw [ZJ,(hcell j).1,TR.ae,zK (by simpa using hj),ZG,zA hj]
  simp[List.getD,hj]
 rintro e w' ⟨v',rfl,h1,_,h2⟩;rw[ZA] at h1;obtain⟨G',h3⟩:=C3 hrs (by first|(unfold glim;omega)|(unfold lim;omega)) h1 h2
 exact⟨_,_,_,G',rfl,⟨rfl,rfl⟩,h3⟩
end Go.AM
