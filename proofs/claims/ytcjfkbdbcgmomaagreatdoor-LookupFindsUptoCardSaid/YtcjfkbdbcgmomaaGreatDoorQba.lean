/-
  By an AI agent.
-/
import Derived.Test.YtcjfkbdbcgmomaaGreatDoorQaz
set_option linter.unusedSimpArgs false
set_option linter.unusedVariables false
set_option maxRecDepth 100000
namespace Go.CK
open Go.AM Go.Proofs
theorem LU{x:Rl}:Fun Tryz.prog 172 [x.av] (.bool (decide ((x.remove.length:Int)=0))):=by
 refine Fun.of (nA (by simp) ?_) rfl rfl
 conv=>whnf
 repeat' (first|refine gL (.map ?_)|refine ag.nrm ?_)<;>conv=>whnf
def Pg.ok(p:Pg):Prop:=∀x∈p.rules,x.keep.length+x.remove.length<=100000/\x.ai.length=x.keep.length+x.remove.length
theorem OC{o:Cap}{l m:List AV}(h:l=m):AV.sl o l=AV.sl o m:=by rw[h]
def mV(i:Nat)(x:Rl):Nat->List (Oc×At)
 |0=>[]
 |j+1=>mV i x j++[(⟨i,(x.ai.length:Int)-1-j,decide ((x.ai.length:Int)-1-j<x.keep.length)⟩,(x.ai[x.ai.length-1-j]?).getD ⟨.empty,[]⟩)]
def ic(l:List Rl):Nat->List (Oc×At)
 |0=>[]
 |j+1=>ic l j++match l[j]? with
  |none=>[]
  |some x=>mV j x x.ai.length
def ocs(l:List (Oc×At)):List AV:=l.map λy=>y.1.av
theorem uW(i:Nat)(x:Rl):∀j,(mV i x j).length=j
 |0=>rfl
 |j+1=>by simp[mV,uW i x j]
theorem LZ(l:List (Oc×At)):(ocs l).length=l.length:=by simp[ocs]
theorem D3{p:Pg}(hp:p.ok):∀j,(ic p.rules j).length<=100000*j
 |0=>zJ _
 |j+1=>by
  have:=D3 hp j;simp only[ic,zC];split
  .simp;omega
  .rename_i x a;have:=hp x (zE a);rw[uW];omega
def Pg.occs(p:Pg):List Oc:=(ic p.rules p.rules.length).map (·.1)
theorem L0(p:Pg):p.occs.map Oc.av=ocs (ic p.rules p.rules.length):=by simp[Pg.occs,ocs]
theorem EP{p:Pg}:Fun Tryz.prog 124 [p.av] (.fn (.func 175) [] [.ept p.av.cells]):=by
 refine Fun.of (wZ (by simp) ?_) rfl rfl
 conv=>whnf
 skip;refine ag.of (Lp.freeze 0 rfl rfl rfl rfl ?_)
 conv=>whnf
 rfl
def ysA(l:List (Oc×At)):List (List AV):=l.map λy=>[y.1.av,y.2.av]
theorem yu{l:List Rl}{j:Nat}{x:Rl}(h:l[j]? =some x):ic l (j+1)=ic l j++mV j x x.ai.length:=by simp[ic,h]
theorem F2{l:List Rl}{j:Nat}(a:j<=l.length):∃r,ic l l.length=ic l j++r:=by
 have:∀k,∃r,ic l (j+k)=ic l j++r:=λk=>by
  induction k with
  |zero=>exact⟨[],by simp⟩
  |succ k ih=>
   obtain⟨r,hr⟩:=ih;exact⟨_,by rw[<-Zk,ic,hr,zg]⟩
 obtain⟨r,hr⟩:=this (l.length-j);rw[show j+(l.length-j)=l.length by omega] at hr
 exact⟨r,hr⟩
theorem EO{i:Nat}{x:Rl}{n k:Nat}(hk:k<=n):∃r,mV i x n=mV i x k++r:=by
 have:∀m,∃r,mV i x (k+m)=mV i x k++r:=λm=>by
  induction m with
  |zero=>exact⟨[],by simp⟩
  |succ m ih=>
   obtain⟨r,hr⟩:=ih;exact⟨_,by rw[<-Zk,mV,hr,zg]⟩
 obtain⟨r,hr⟩:=this (n-k);rw[show k+(n-k)=n by omega] at hr
 exact⟨r,hr⟩
theorem IX{l:List Rl}{i:Nat}{x:Rl}(a:l[i]? =some x){k:Nat}(hk:k<x.ai.length){h:At}(d:x.ai[x.ai.length-1-k]? =some h):
  ∃rest,ysA (ic l i++mV i x k)++[(⟨i,(x.ai.length:Int)-1-k,decide ((x.ai.length:Int)-1-k<x.keep.length)⟩:Oc).av,h.av]::rest=ysA (ic l l.length):=by
 have c:i<l.length:=(zB.1 a).1;obtain⟨r,hr⟩:=F2 (l:=l) (j:=i+1) c;obtain⟨q,b⟩:=EO (i:=i) (x:=x) (n:=x.ai.length) (k:=k+1) hk;refine⟨ysA (q++r),?_⟩;rw[hr,yu a,b];simp[ysA,mV,d]
theorem A3{p:Pg}(hp:p.ok)(w:p.rules.length<=10000):yw Tryz.prog 175 [.ept p.av.cells] (ysA (ic p.rules p.rules.length)):=by
 intro b bs J Jx hb hJ hJx hr B;refine rO (by simp) ?_
 conv=>whnf
 repeat' refine gL (.map ?_)<;>conv=>whnf
 refine ax.by (fb:=false) (λ_ (q:Nat×List Box)=>⟨[(0,.yl b),(8,.sl .no (p.rules.map Rl.av)),(9,.int .i64 p.rules.length),(10,.int .i64 q.1)],q.2,bs.length⟩) (λq=>q.1<=p.rules.length/\J (ysA (ic p.rules q.1)) q.2) (λq=>p.rules.length-q.1) (0,bs) ⟨by simp,B⟩ (al.eqS rfl rfl rfl) ?_
 rintro⟨i,u⟩ ⟨y,f⟩;dsimp only at y f|-;have A:=hJ _ _ f
 by_cases v:i<p.rules.length
 .conv=>whnf
  repeat' (first|(refine gF ?_;refine ae.fn (fM (hp _ (zE (by assumption))).1) ?_)|refine gC (gD (cI ?_))|refine gW (wI ?_)|refine gL (.map ?_)|(refine gI ?_;(refine gM ?_;(refine iH λx n=>?_;try have hm:=hp x (zE n))))|refine gB (.last ?_)|refine jI.last ?_)<;>conv=>whnf
  refine ax.by (fb:=false) (λ_ (q:Nat×List Box)=>⟨[(0,.yl b),(3,.int .i64 i),(4,.ptr q.2.length 0),(5,.sl .no (x.ai.map At.av)),(6,.int .i64 ((x.ai.length:Int)-1-q.1)),(8,.sl .no (p.rules.map Rl.av)),(9,.int .i64 p.rules.length),(10,.int .i64 i)],q.2++[.cells x.av.cells],bs.length⟩)
   (λq=>q.1<=x.ai.length/\J (ysA (ic p.rules i++mV i x q.1)) q.2) (λq=>x.ai.length-q.1) (0,u) ⟨zJ _,by simpa[mV] using f⟩ (al.atS ?_ rfl rfl) ?_
  .conv=>whnf
   repeat' (first|(refine gV ?_;first|refine vE ?_|refine vI ?_)|exact True.intro)<;>conv=>whnf
  rintro⟨k,l⟩ ⟨hk,d⟩;dsimp only at hk d|-;have g:=hJ _ _ d
  by_cases m:k<x.ai.length
  .obtain ⟨h,t⟩:∃h,x.ai[x.ai.length-1-k]? =some h:=⟨_,zA (by omega)⟩
   have z:x.ai[((x.ai.length:Int)-1-k).toNat]? =some h:=by
    rw[show ((x.ai.length:Int)-1-k).toNat=x.ai.length-1-k by omega];exact t
   obtain⟨rest,j⟩:=IX n m t
   conv=>whnf
   repeat' (first|refine gC (gD (cI ?_))|refine gL (.map ?_)|refine gI (gM (iF ?_))|refine gB (.last ?_))<;>conv=>whnf
   refine sw.of (hr _ _ rest l [.cells x.av.cells] j d) ?_;rintro r C ⟨own,rfl,h⟩;rcases h with ⟨rfl,a⟩|⟨rfl,a⟩
   .have c:=hJ _ _ a
    conv=>whnf
    repeat' (first|(refine gC ?_;first|refine cY ?_|refine .not ?_)|refine gW (wI ?_)|fail)<;>conv=>whnf
    refine⟨(k+1,own),⟨⟨m,?_⟩,by simp;omega⟩,al.atS ?_ rfl rfl⟩
    .have e:ysA (ic p.rules i++mV i x (k+1))=ysA (ic p.rules i++mV i x k)++[[(⟨i,(x.ai.length:Int)-1-k,decide ((x.ai.length:Int)-1-k<x.keep.length)⟩:Oc).av,h.av]]:=by simp[ysA,mV,t]
     dsimp only;rw[e];exact a
    .have he:l.length=own.length:=by omega
     conv=>whnf
     repeat' (first|(refine gV ?_;first|refine vE ?_|refine vI ?_|(refine WkN.norm ?_ ?_;(focus (simp[AV.norm,AV.ay,he];done))))|exact True.intro)<;>conv=>whnf
   .have c:=hJx _ a
    conv=>whnf
    repeat' (refine gC ?_;first|refine cN ?_|refine .not ?_)<;>conv=>whnf
    refine ag.keep [] ?_;refine ag.qU (own:=own) rfl (by simp[St.keep];omega) rfl (by rw[c.1];exact c.2) ?_
    conv=>whnf
    repeat' refine ag.nrm ?_<;>conv=>whnf
    exact .inr a
  .have o:k=x.ai.length:=by omega
   subst o
   conv=>whnf
   repeat' (first|refine gC (gD (cJ ?_))|refine gW (wI ?_)|fail)<;>conv=>whnf
   refine⟨(i+1,l),⟨⟨by simp;omega,?_⟩,by simp;omega⟩,al.qU rfl (by simp;omega) (by simp[fO,AV.lt,AV.lt1,AV.lt0,AV.aZ];omega) (by rw[g.1];exact g.2) (al.atS ?_ rfl rfl)⟩
   .simpa [yu n] using d
   .conv=>whnf
    repeat' (first|(refine gV ?_;first|refine vE ?_|refine vI ?_)|exact True.intro)<;>conv=>whnf
 .have s:i=p.rules.length:=by omega
  conv=>whnf
  repeat' (first|refine gC (gD (cJ ?_))|refine ag.nrm ?_)<;>conv=>whnf
  exact .inl (s▸f)
theorem FZ{p:Pg}(hp:p.ok)(b:p.rules.length<=10000):Fun Tryz.prog 66 [p.av] (.sl .no (p.occs.map Oc.av)):=by
 rw[L0];have d:=D3 hp p.rules.length;refine Fun.of (AY (by simp) ?_) rfl rfl
 conv=>whnf
 repeat' refine gF (ae.fn (EP) ?_)<;>conv=>whnf
 refine jl.each (λy:Oc×At=>[y.1.av,y.2.av]) (ic p.rules p.rules.length) ⟨[(2,.sl .full []),(3,.ptr 1 0),(6,.fn (.func 175) [] [.ept p.av.cells])],[.cells [.sl .no (p.decls.map Dc.av),.sl .no (p.rules.map Rl.av)],.cells [.sl (.own 3) []]],0⟩
  (λpre=>[.cells [.sl .no (p.decls.map Dc.av),.sl .no (p.rules.map Rl.av)],.cells [.sl (.own 3) (ocs pre)]]) (A3 hp b) (by kernel_rfl) ?_ rfl (λ_=>rfl) (λ_=>rfl) rfl (λ_=>⟨rfl,rfl⟩) ?_ ?_
 .refine al.Bn 1 0 3 rfl (by simp) ?_
  exact al.eqS rfl rfl rfl
 .intro x pre y rest a
  have c:(ocs pre).length+1<=100000*p.rules.length:=by
   have:=congrArg List.length a;simp at this;rw[LZ];omega
  conv=>whnf
  repeat' (first|refine gN (nS ?_)|refine gA (aP ?_))<;>conv=>whnf
  refine sB.by ?_ rfl rfl rfl
  conv=>whnf
  repeat' (first|refine xB ?_|(refine BxN.mk ?_ ?_;(focus (simp[ocs,Oc.av];done)))|exact True.intro)<;>conv=>whnf
 .conv=>whnf
  repeat' refine ag.nrm ?_<;>conv=>whnf
end Go.CK
namespace Go.CK
open Go.AM Go.Proofs
def Kk(o x:Oc):Bool:=decide (o=x)
theorem Kj{o x:Oc}(c:o.rule=x.rule)(b:o.head=x.head)(a:o.kept=x.kept):Kk o x=true:=decide_eq_true (Oc.ext c b a)
theorem Bg{α:Type}{o x:Oc}(f:Oc->α)(h:¬f o=f x):Kk o x=false:=decide_eq_false λe=>h (by rw[e])
theorem Lh(l:List Oc)(o:Oc):l.any (Kk o)=decide (o∈l):=by
 rw[Bool.eq_iff_iff,List.any_eq_true,decide_eq_true_eq];exact⟨λ⟨x,h,e⟩=>(of_decide_eq_true e:o=x)▸h,λh=>⟨o,h,decide_eq_true rfl⟩⟩
theorem Fo{l:List Oc}{o:Oc}:Fun Tryz.prog 176 [slA Oc.av l,o.av] (.int .i64 (eV (Kk o) l)):=by
 refine Fun.assume rfl λc=>?_;have g:=(aS (c (slA Oc.av l) (by simp))).1
 refine Fun.of (eR (by simp) ?_) rfl rfl
 conv=>whnf
 repeat' refine gL (.map ?_)<;>conv=>whnf
 refine ax.count (fb:=true) (l.length) (λb j=>b.bD [(8,.int .i64 j)]) (λj=>∀i x,i<j->l[i]? =some x->Kk o x=false) ?_ ?_ (λj f a=>?_) (λa=>?_)
 .exact ch
 .exact aN
 .conv=>whnf
  repeat' (first|(refine gC ?_;first|refine cY ?_|refine gD (cI ?_)|with_reducible refine ak.and ?_|refine ak.dec (λd=>?_) (λd=>?_))|refine gW (wI ?_)|(refine gI ?_;(refine gM ?_;refine iH λx e=>?_))|refine ag.nrm ?_)<;>conv=>whnf
  .rw [fN a (by assumption) (Kj (by assumption) (by assumption) (by assumption))]
  .refine ⟨bM a (by assumption) (Bg Oc.kept (by assumption)),?_⟩
   exact aN
  .refine ⟨bM a (by assumption) (Bg Oc.head (by assumption)),?_⟩
   exact aN
  .refine ⟨bM a (by assumption) (Bg Oc.rule (by assumption)),?_⟩
   exact aN
 .conv=>whnf
  repeat' (first|refine gC (gD (cJ ?_))|refine ag.nrm ?_)<;>conv=>whnf
  rw[jc a]
theorem o8{l:List Oc}{o:Oc}:Fun Tryz.prog 125 [slA Oc.av l,o.av] (.bool (decide (o∈l))):=by
 rw[<-Lh,<-fh];refine Fun.of (dV (by simp) ?_) rfl rfl
 conv=>whnf
 repeat' (first|(refine gF ?_;refine ae.fn (Fo (l:=l) (o:=o)) ?_)|refine ag.nrm ?_)<;>conv=>whnf
end Go.CK
namespace Go.CK
open Go.AM Go.Proofs
theorem De{x:Gl}(a:(Tm.vss x.args).length<=100000):Fun Tryz.prog 235 [x.av] (slA aG (aV (Tm.vss x.args))):=by
 refine Fun.of (rI (by simp) ?_) rfl rfl
 conv=>whnf
 repeat' (first|(refine gF ?_;first|refine ae.fn (Bm) ?_|refine ae.fn (A1 a) ?_)|refine ag.nrm ?_)<;>conv=>whnf
theorem uu{x:Gl}(a:(Tm.vss x.args).length<=100000):Fun Tryz.prog 169 [x.av] (slA aG (aV (Tm.vss x.args))):=by
 refine Fun.of (gY (by simp) ?_) rfl rfl
 conv=>whnf
 repeat' (first|refine gF (ae.fn (rb a) ?_)|refine ag.nrm ?_)<;>conv=>whnf
def cM(xs:List Int)(g:Gl):Bool:=(aV (Tm.vss g.args)).all λv=>decide (v∈xs)
theorem Iu{bs:List Box}{b:Nat}{xs:List Int}{g:Gl}(m:(Tm.vss g.args).length<=100000)(d:aj bs.length bs=true)(hb:bs[b]? =some (.mp (dX (.bool true) xs))):AM.Sem Tryz.prog 207 [.mpt b,g.av] bs λr bs'=>r=.bool (cM xs g)/\bs'=bs:=by
 have c:b<bs.length:=(zB.1 hb).1;refine l7 (by simp) ?_
 conv=>whnf
 repeat' (first|(refine gF ?_;refine ae.fn (De (x:=g) m) ?_)|refine gL (.map ?_)|refine gB (.last ?_))<;>conv=>whnf
 unfold cM
 have l:(aV (Tm.vss g.args)).length<=100000:=by
  have:=cU (Tm.vss g.args) [];simp only[ZP] at this;unfold aV;omega
 generalize aV (Tm.vss g.args)=vs at*;obtain⟨e,f⟩:∃e,e=[AV.int .i64 g.op,.str g.name,.sl .no (g.args.map Tm.av)]:=⟨_,rfl⟩;have p:(bs++[Box.cells e])[b]? =some (.mp (dX (.bool true) xs)):=by rw[zK c];exact hb
 rw[<-f];refine ax.count (fb:=false) vs.length (λk j=>⟨[(0,.mpt b),(8,slA aG vs),(9,.int .i64 vs.length),(10,.int .i64 j)],bs++[Box.cells e],bs.length⟩) (λj=>∀i x,i<j->vs[i]? =some x->decide (x∈xs)=true) (λi x q=>by omega) ?_ (λj n a=>?_) (λa=>?_)
 .refine al.atS ?_ rfl rfl
  conv=>whnf
  repeat' (first|(refine gV ?_;first|refine vE ?_|refine vI ?_)|exact True.intro)<;>conv=>whnf
 .obtain ⟨y,h⟩:∃y,vs[j]? =some y:=⟨_,zA n⟩
  conv=>whnf
  repeat' (first|(refine gC ?_;first|refine cY ?_|refine cN ?_|refine .not ?_|refine gD (cI ?_))|refine gW (wI ?_)|refine gI (gM (iE ?_))|refine gMp (mA ?_)|(refine gMs ?_;refine mS (λo=>?_) (λo=>?_)))<;>conv=>whnf
  .refine ⟨fB a h (decide_eq_true (by assumption)),?_⟩
   refine al.atS ?_ rfl rfl
   conv=>whnf
   repeat' (first|(refine gV ?_;first|refine vE ?_|refine vI ?_)|exact True.intro)<;>conv=>whnf
  .refine ag.qU rfl (zG _) rfl d ?_;refine ag.slot ⟨?_,rfl⟩;rw[pN h (decide_eq_false (by assumption))];rfl
 .conv=>whnf
  repeat' refine gC (gD (cJ ?_))<;>conv=>whnf
  refine ag.qU rfl (zG _) rfl d ?_;refine ag.slot ⟨?_,rfl⟩;rw[BE a];rfl
theorem ag.nil{s:St}{Q:AV->List Box->Prop}(h:Q (.tup []) s.bs):ag s [] Q:=⟨s,aD.refl s,.inl h⟩
theorem ud{α:Type}{l:List α}{b:Nat}{x:α}(h:l[b]? =some x):l.set b x=l:=by
 obtain⟨hb,rfl⟩:=zB.1 h;exact List.set_getElem_self hb
theorem Fc{hs:List At}{k:Int}(h:k<0\/(hs.length:Int)<=k):kvs hs [k]=[]:=by
 have:=Fe (hs:=hs) (l:=[k]) (j:=0) (k:=k) rfl h;simpa[kvs] using this
theorem GN{hs:List At}{k:Int}{h:At}(b:0<=k)(a:hs[k.toNat]? =some h):kvs hs [k]=aV (Tm.vss h.args):=by
 have:=Bc (hs:=hs) (l:=[k]) (j:=0) (k:=k) rfl b a;simpa[kvs] using this
theorem KW{bs:List Box}{b:Nat}{xs:List Int}{hs:List At}{k:Int}(d:∀h∈hs,(Tm.vss h.args).length<=100000)(m:aj bs.length bs=true)(hb:bs[b]? =some (.mp (dX (.bool true) xs))):AM.Sem Tryz.prog 208 [.mpt b,slA At.av hs,.int .i64 k] bs λr bs'=>r=.tup []/\bs'=bs.set b (.mp (dX (.bool true) (xs++kvs hs [k]))):=by
 have a:b<bs.length:=(zB.1 hb).1;refine mU (by simp) ?_
 by_cases hk:0<=k/\k<hs.length
 .obtain ⟨h,c⟩:∃h,hs[k.toNat]? =some h:=⟨_,zA (by omega)⟩
  rw[GN hk.1 c]
  conv=>whnf
  repeat' (first|(refine gF ?_;refine ae.fn (n5 (x:=h) (d h (zE c))) ?_)|refine gC (gD (cJ ?_))|refine gL (.map ?_)|refine gI (gM (iF ?_)))<;>conv=>whnf
  have i:(aV (Tm.vss h.args)).length<=100000:=by
   have:=cU (Tm.vss h.args) [];simp only[ZP] at this;have:=d h (zE c);unfold aV;omega
  generalize aV (Tm.vss h.args)=vs at*;refine ax.count (fb:=false) vs.length (λf j=>⟨[(0,.mpt b),(20,slA aG vs),(21,.int .i64 vs.length),(22,.int .i64 j)],bs.set b (.mp (dX (.bool true) (xs++vs.take j))),bs.length⟩) (λ_=>True) trivial ?_ (λj e _=>?_) (λ_=>?_)
  .refine al.atS ?_ (by rw[ZK,zy,ud hb]) rfl
   conv=>whnf
   repeat' (first|(refine gV ?_;first|refine vE ?_|refine vI ?_)|exact True.intro)<;>conv=>whnf
  .obtain ⟨y,g⟩:∃y,vs[j]? =some y:=⟨_,zA e⟩
   have hs:vs.take (j+1)=vs.take j++[y]:=by
    rw[List.take_succ_eq_append_getElem e,(zB.1 g).2]
   have n:(bs.set b (.mp (dX (.bool true) (xs++vs.take j))))[b]? =some (.mp (dX (.bool true) (xs++vs.take j))):=by rw[List.getElem?_set_self a]
   conv=>whnf
   repeat' (first|refine gC (gD (cI ?_))|refine gW (wI ?_)|refine gN (nS ?_)|refine gI (gM (iE ?_))|refine gMp (mA ?_))<;>conv=>whnf
   refine⟨trivial,?_⟩;refine al.atS ?_ (by simp only[List.set_set,St.ev];rw[hs,<-zg,qv]) rfl
   conv=>whnf
   repeat' (first|(refine gV ?_;first|refine vE ?_|refine vI ?_)|exact True.intro)<;>conv=>whnf
  .rw [zz]
   conv=>whnf
   repeat' refine gC (gD (cJ ?_))<;>conv=>whnf
   exact ag.nil ⟨rfl,rfl⟩
 .rw [Fc (by omega),zy,ud hb]
  conv=>whnf
  repeat' (first|(refine gC ?_;first|refine cY ?_|(refine gD ?_;first|refine cI ?_|refine cJ ?_)|refine ak.lt (λl=>?_) (λl=>?_))|refine gL (.map ?_))<;>conv=>whnf
  .exact ag.nil ⟨rfl,rfl⟩
  .exact ag.nil ⟨rfl,rfl⟩
end Go.CK
namespace Go.CK
open Go.AM Go.Proofs
def eT{α:Type}(p:α->Bool)(l:List α):Nat->List Int
 |0=>[]
 |j+1=>eT p l j++match l[j]? with
  |none=>[]
  |some x=>if p x then [(j:Int)] else []
theorem Kv{α:Type}{p:α->Bool}{l:List α}{j:Nat}{t:α}(h:l[j]? =some t)(hp:p t=true):eT p l (j+1)=eT p l j++[(j:Int)]:=by simp[eT,h,hp]
theorem GQ{α:Type}{p:α->Bool}{l:List α}{j:Nat}{t:α}(h:l[j]? =some t)(hp:p t=false):eT p l (j+1)=eT p l j:=by simp[eT,h,hp]
theorem vy{α:Type}(p:α->Bool)(l:List α):∀j,(eT p l j).length<=j
 |0=>zG _
 |j+1=>by
  have:=vy p l j;simp only[eT,zC];split
  .simp;omega
  .split<;>simp<;>omega
def Rl.okG(r:Rl):Prop:=r.guard.length<=100000/\∀g∈r.guard,(Tm.vss g.args).length<=100000
def jo(r:Rl)(order:List Int):Nat->Gl->Bool
 |0=>cM (kvs r.ai [])
 |k+1=>λg=>cM (kvs r.ai (order.take (k+1))) g&&!cM (kvs r.ai (order.take k)) g
def newI(r:Rl)(order:List Int)(k:Nat):List Int:=eT (jo r order k) r.guard r.guard.length
def e8(r:Rl)(order:List Int):Nat->List (List Int)
 |0=>[]
 |k+1=>e8 r order k++[newI r order k]
def AK(r:Rl)(order:List Int):List (List Int):=e8 r order (order.length+1)
theorem pv(r:Rl)(order:List Int):∀k,(e8 r order k).length=k
 |0=>rfl
 |k+1=>by simp[e8,pv r order k]
def mI(l:List Int):AV:=slA aG l
end Go.CK
namespace Go.CK
open Go.AM Go.Proofs
def dt(r:Rl)(order:List Int):Nat->List Bool
 |0=>List.replicate r.guard.length false
 |k+1=>r.guard.map (cM (kvs r.ai (order.take k)))
def bj(r:Rl)(order:List Int)(k i:Nat):List Bool:=(dt r order (k+1)).take i++(dt r order k).drop i
theorem cy(r:Rl)(order:List Int):∀k,(dt r order k).length=r.guard.length
 |0=>by simp[dt]
 |k+1=>by simp[dt]
theorem HC{α:Type}{A B:List α}{j:Nat}{a:α}(h:A[j]? =some a)(c:A.length=B.length):A.take (j+1)++B.drop (j+1)=(A.take j++B.drop j).set j a:=by
 obtain⟨b,rfl⟩:=zB.1 h;rw[yR _ _ (by rw[zn];omega),zn,yH (by omega),yN,zH (show j<B.length by omega),List.set_cons_zero,List.take_succ_eq_append_getElem b,zg]
 rfl
theorem LK{α:Type}{A B:List α}{j:Nat}{b:α}(h:B[j]? =some b)(a:A.length=B.length):(A.take j++B.drop j)[j]? =some b:=by
 have c:j<B.length:=(zB.1 h).1;rw[zZ (by rw[zn];omega),zn,yH (by omega),yN,List.getElem?_drop,Zf,h]
def qf(r:Rl)(order:List Int):Nat->Gl->Bool
 |0,_=>false
 |k+1,g=>cM (kvs r.ai (order.take k)) g
theorem rQ(r:Rl)(order:List Int)(k:Nat)(g:Gl):jo r order k g=(cM (kvs r.ai (order.take k)) g&&!qf r order k g):=by
 cases k with
 |zero=>simp[jo,qf]
 |succ k=>rfl
theorem uK{r:Rl}{order:List Int}{j:Nat}{g:Gl}(h:r.guard[j]? =some g):∀k,(dt r order k)[j]? =some (qf r order k g)
 |0=>by
  have:=(zB.1 h).1
  simp[dt,qf,this]
 |k+1=>by simp[dt,qf,h]
theorem uL{r:Rl}{order:List Int}{j:Nat}{g:Gl}(k:Nat)(h:r.guard[j]? =some g):(bj r order k j)[j]? =some (qf r order k g):=
 LK (uK h k) (by rw[cy,cy])
theorem qj{r:Rl}{order:List Int}{j:Nat}{g:Gl}(k:Nat)(h:r.guard[j]? =some g):bj r order k (j+1)=(bj r order k j).set j (cM (kvs r.ai (order.take k)) g):=
 HC (uK h (k+1)) (by rw[cy,cy])
theorem Dw{xs ys:List Int}{g:Gl}(h:∀x∈xs,x∈ys)(a:cM xs g=true):cM ys g=true:=by
 rw[cM,zS] at a|-;exact λx b=>decide_eq_true (h x (of_decide_eq_true (a x b)))
theorem sJ{r:Rl}{order:List Int}{g:Gl}:∀{k:Nat},qf r order k g=true->cM (kvs r.ai (order.take k)) g=true
 |0,h=>by cases h
 |k+1,h=>Dw (λx a=>by
  have:=Be (hs:=r.ai) (done:=order.take (k+1)) (i:=k) (x:=x);rw[List.take_take,yH (Nat.le_succ k)] at this;exact this a) h
theorem sM(r:Rl)(order:List Int)(k j:Nat):(bj r order k j).length=r.guard.length:=by
 simp only[bj,zC,zn,Zd,cy];omega
theorem qk{r:Rl}{order:List Int}{j:Nat}{g:Gl}(k:Nat)(h:r.guard[j]? =some g)(e:cM (kvs r.ai (order.take k)) g=qf r order k g):bj r order k (j+1)=bj r order k j:=by
 rw[qj k h,e,ud (uL k h)]
theorem sN{r:Rl}{order:List Int}{j:Nat}{g:Gl}(k:Nat)(h:r.guard[j]? =some g)(f:(Tm.vss g.args).length<=100000):∃c e:Bool,(bj r order k j)[j]? =some c/\
  ((c=true->eT (jo r order k) r.guard (j+1)=eT (jo r order k) r.guard j)/\(c=false/\e=true->eT (jo r order k) r.guard (j+1)=eT (jo r order k) r.guard j++[(j:Int)])/\(c=false/\e=false->eT (jo r order k) r.guard (j+1)=eT (jo r order k) r.guard j))/\
  ((c=true->bj r order k (j+1)=bj r order k j)/\(c=false/\e=true->bj r order k (j+1)=(bj r order k j).set j true)/\(c=false/\e=false->bj r order k (j+1)=bj r order k j))/\
  ∀{bs:List Box} {b:Nat},aj bs.length bs=true->bs[b]? =some (.mp (dX (.bool true) (kvs r.ai (order.take k))))->AM.Sem Tryz.prog 207 [.mpt b,g.av] bs λr bs'=>r=.bool e/\bs'=bs:=by
 refine⟨qf r order k g,cM (kvs r.ai (order.take k)) g,uL k h,⟨λa=>GQ h ?_,λ⟨a,d⟩=>Kv h ?_,λ⟨a,d⟩=>GQ h ?_⟩,⟨λa=>qk k h ?_,λ⟨a,d⟩=>?_,λ⟨a,d⟩=>qk k h ?_⟩,λhb a=>Iu f hb a⟩
 .rw [rQ,a,sJ a];rfl
 .rw [rQ,a,d];rfl
 .rw [rQ,a,d];rfl
 .rw [a,sJ a]
 .rw [qj k h,d]
 .rw [a,d]
set_option maxHeartbeats 4000000 in
theorem JM{r:Rl}{order:List Int}(hr:r.ok2)(u:r.okG)(F:order.length<=100):Fun Tryz.prog 181 [r.av,slA aG order] (slA mI (AK r order)):=by
 have E:=u.1;obtain⟨rc,B⟩:∃rc,rc=[AV.str r.name,.sl .no (r.keep.map At.av),.sl .no (r.remove.map At.av),.sl .no (r.guard.map Gl.av),.sl .no (r.body.map Gl.av),.int .i64 r.vars]:=⟨_,rfl⟩;refine Fun.of (uT (by simp) ?_) rfl rfl
 conv=>whnf
 repeat' (first|(refine gF ?_;refine ae.fn (fM (x:=r) (by have:=hr.1;omega)) ?_)|refine gW (wI ?_)|refine gL (.map ?_)|refine gN (nS ?_)|refine gMk (mBb ?_))<;>conv=>whnf
 refine ax.count (fb:=true) order.length (λd k=>⟨[(1,.sl .no (order.map aG)),(2,.ptr 0 0),(5,.sl .no (r.ai.map At.av)),(6,.mpt 1),(7,.bsl 2 r.guard.length r.guard.length),(8,.sl (.own 1) ((e8 r order k).map mI)),(9,.int .i64 k)],[.cells [.str r.name,.sl .no (r.keep.map At.av),.sl .no (r.remove.map At.av),.sl .no (r.guard.map Gl.av),.sl .no (r.body.map Gl.av),.int .i64 r.vars],.mp (dX (.bool true) (kvs r.ai (order.take k))),aJ AV.bool 1 r.guard.length (dt r order k)],0⟩) (λ_=>True) trivial ?_ (λk hk _=>?_) (λ_=>?_)
 .refine al.at_ ?_ rfl
  conv=>whnf
  refine And.intro ?_ ?_<;>conv=>whnf
  all_goals repeat' (first|(refine gV ?_;first|refine vE ?_|refine vI ?_|(refine WkN.sl ?_ ?_;(focus (simp[AV.norm,AV.ay,e8,dX,kvs,dt];done)))|(refine WkN.norm ?_ ?_;(focus (simp[AV.norm,AV.ay,e8,dX,kvs,dt];done))))|(refine gX ?_;first|refine xB ?_|(refine BxN.mk ?_ ?_;(focus (simp[AV.norm,AV.ay,e8,dX,kvs,dt];done))))|exact True.intro)<;>conv=>whnf
 .obtain ⟨x,A⟩:∃x,order[k]? =some x:=⟨_,zA hk⟩
  have q:order.take (k+1)=order.take k++[x]:=by
   rw[List.take_succ_eq_append_getElem hk,(zB.1 A).2]
  have m:kvs r.ai (order.take (k+1))=kvs r.ai (order.take k)++kvs r.ai [x]:=by rw[q,qD]
  have l:bj r order k r.guard.length=dt r order (k+1):=by
   rw[bj,<-cy r order (k+1),zz,cy,<-cy r order k,zj,zy]
  have e:(e8 r order k).map mI++[AV.sl Cap.no ((eT (jo r order k) r.guard r.guard.length).map aG)]=(e8 r order (k+1)).map mI:=by
   simp only[e8,zu,zP,Zb];rfl
  have s:=pv r order k
  conv=>whnf
  repeat' refine gL (.map ?_)<;>conv=>whnf
  refine ax.count (fb:=true) r.guard.length (λd j=>⟨(d.bD [(10,.sl (.own 1) ((eT (jo r order k) r.guard j).map aG)),(29,.int .i64 j)]).env,[.cells [.str r.name,.sl .no (r.keep.map At.av),.sl .no (r.remove.map At.av),.sl .no (r.guard.map Gl.av),.sl .no (r.body.map Gl.av),.int .i64 r.vars],.mp (dX (.bool true) (kvs r.ai (order.take k))),aJ AV.bool 1 r.guard.length (bj r order k j)],0⟩) (λ_=>True) trivial ?_ (λj t _=>?_) (λ_=>?_)
  .refine al.at_ ?_ rfl
   conv=>whnf
   refine And.intro ?_ ?_<;>conv=>whnf
   all_goals repeat' (first|(refine gV ?_;first|refine vE ?_|refine vI ?_|((refine gK ?_;refine vD ?_ ?_);(focus (simp[AV.norm,AV.ay,eT,bj];done))))|(refine gX ?_;first|refine xB ?_|(refine BxN.mk ?_ ?_;(focus (simp[AV.norm,AV.ay,eT,bj];done))))|exact True.intro)<;>conv=>whnf
  .obtain ⟨g,c⟩:∃g,r.guard[j]? =some g:=⟨_,zA t⟩;have i:=u.2 g (zE c);have C:=vy (jo r order k) r.guard j;have f:=sM r order k j;obtain⟨n,w,v,hs,a,b⟩:=sN (order:=order) k c i;generalize bj r order k j=y at*;generalize bj r order k (j+1)=o at*;generalize eT (jo r order k) r.guard (j+1)=p at*;generalize eT (jo r order k) r.guard j=z at*
   cases n with
   |true=>
    have hs:=hs.1 rfl;have a:=a.1 rfl;clear b
    conv=>whnf
    repeat' (first|(refine gC ?_;first|refine cY ?_|refine cN ?_|refine .not ?_|refine gD (cI ?_))|refine gW (wI ?_)|refine gN (nS ?_)|refine gI (gM (iE ?_))|(refine gE ?_;refine eLb ?_))<;>conv=>whnf
    refine⟨trivial,?_⟩;refine al.atC 3 ?_ rfl rfl rfl rfl (by first|rfl|(repeat' (first|rfl|refine ao (row_allI _ _ _) ?_|refine ao (az _ _ _) ?_|refine bLtMp ?_|refine aE ?_|refine bLtCells rfl ?_)))
    conv=>whnf
    refine And.intro ?_ ?_<;>conv=>whnf
    all_goals repeat' (first|(refine gV ?_;first|refine vE ?_|refine vI ?_|(refine WkN.sl ?_ ?_;(focus (simp[AV.norm,AV.ay,hs,a];done))))|(refine gX ?_;first|refine xB ?_|(refine BxN.mk ?_ ?_;(focus (simp[AV.norm,AV.ay,hs,a];done))))|exact True.intro)<;>conv=>whnf
   |false=>
    cases w with
    |true=>
     have hs:=hs.2.1 ⟨rfl,rfl⟩;have a:=a.2.1 ⟨rfl,rfl⟩
     conv=>whnf
     repeat' (first|(refine gF ?_;refine ae.to (b (by first|rfl|(repeat' (first|rfl|refine ao (row_allI _ _ _) ?_|refine ao (az _ _ _) ?_|refine bLtMp ?_|refine aE ?_|refine bLtCells rfl ?_))) rfl) ?_)|(refine gC ?_;first|refine cY ?_|refine cN ?_|refine .not ?_|refine gD (cI ?_))|refine gW (wI ?_)|refine gN (nS ?_)|refine gI (gM (iE ?_))|(refine gE ?_;refine eLb ?_)|refine gS (eSb ?_))<;>conv=>whnf
     refine⟨trivial,?_⟩;refine al.atC 3 ?_ rfl rfl rfl rfl (by first|rfl|(repeat' (first|rfl|refine ao (row_allI _ _ _) ?_|refine ao (az _ _ _) ?_|refine bLtMp ?_|refine aE ?_|refine bLtCells rfl ?_)))
     conv=>whnf
     refine And.intro ?_ ?_<;>conv=>whnf
     all_goals repeat' (first|(refine gV ?_;first|refine vE ?_|refine vI ?_|(refine WkN.sl ?_ ?_;(focus (simp[AV.norm,AV.ay,hs,a];done))))|(refine gX ?_;first|refine xB ?_|(refine BxN.mk ?_ ?_;(focus (simp[AV.norm,AV.ay,hs,a];done))))|exact True.intro)<;>conv=>whnf
    |false=>
     have hs:=hs.2.2 ⟨rfl,rfl⟩;have a:=a.2.2 ⟨rfl,rfl⟩
     conv=>whnf
     repeat' (first|(refine gF ?_;refine ae.to (b (by first|rfl|(repeat' (first|rfl|refine ao (row_allI _ _ _) ?_|refine ao (az _ _ _) ?_|refine bLtMp ?_|refine aE ?_|refine bLtCells rfl ?_))) rfl) ?_)|(refine gC ?_;first|refine cN ?_|refine .not ?_|refine gD (cI ?_))|refine gW (wI ?_)|refine gN (nS ?_)|refine gI (gM (iE ?_))|(refine gE ?_;refine eLb ?_))<;>conv=>whnf
     refine⟨trivial,?_⟩;refine al.atC 3 ?_ rfl rfl rfl rfl (by first|rfl|(repeat' (first|rfl|refine ao (row_allI _ _ _) ?_|refine ao (az _ _ _) ?_|refine bLtMp ?_|refine aE ?_|refine bLtCells rfl ?_)))
     conv=>whnf
     refine And.intro ?_ ?_<;>conv=>whnf
     all_goals repeat' (first|(refine gV ?_;first|refine vE ?_|refine vI ?_|(refine WkN.sl ?_ ?_;(focus (simp[AV.norm,AV.ay,hs,a];done))))|(refine gX ?_;first|refine xB ?_|(refine BxN.mk ?_ ?_;(focus (simp[AV.norm,AV.ay,hs,a];done))))|exact True.intro)<;>conv=>whnf
  conv=>whnf
  repeat' (first|(refine gF ?_;refine ae.to (KW (λh D=>by have:=(hr.2 h D).2.1;omega) (by first|rfl|(repeat' (first|rfl|refine ao (row_allI _ _ _) ?_|refine ao (az _ _ _) ?_|refine bLtMp ?_|refine aE ?_|refine bLtCells rfl ?_))) rfl) ?_)|refine gC (gD (cJ ?_))|refine gW (wI ?_)|refine gL (.map ?_)|refine gN (nS ?_)|refine gI (gM (iE ?_)))<;>conv=>whnf
  refine⟨trivial,?_⟩;refine al.at_ ?_ rfl
  conv=>whnf
  refine And.intro ?_ ?_<;>conv=>whnf
  all_goals repeat' (first|(refine gV ?_;first|refine vE ?_|refine vI ?_|(refine WkN.sl ?_ ?_;(focus (simp[AV.norm,AV.ay,m,l,e];done))))|(refine gX ?_;first|refine xB ?_|(refine BxN.mk ?_ ?_;(focus (simp[AV.norm,AV.ay,m,l,e];done))))|exact True.intro)<;>conv=>whnf
 .obtain ⟨k,hk⟩:∃k,order.length=k:=⟨_,rfl⟩;rw[hk]
  have e:(e8 r order k).map mI++[AV.sl Cap.no ((eT (jo r order k) r.guard r.guard.length).map aG)]=(AK r order).map mI:=by
   rw[AK,hk];simp only[e8,zu,zP,Zb];rfl
  have s:=pv r order k
  conv=>whnf
  repeat' refine gL (.map ?_)<;>conv=>whnf
  refine ax.count (fb:=true) r.guard.length (λd j=>⟨(d.bD [(10,.sl (.own 1) ((eT (jo r order k) r.guard j).map aG)),(29,.int .i64 j)]).env,[.cells [.str r.name,.sl .no (r.keep.map At.av),.sl .no (r.remove.map At.av),.sl .no (r.guard.map Gl.av),.sl .no (r.body.map Gl.av),.int .i64 r.vars],.mp (dX (.bool true) (kvs r.ai (order.take k))),aJ AV.bool 1 r.guard.length (bj r order k j)],0⟩) (λ_=>True) trivial ?_ (λj t _=>?_) (λ_=>?_)
  .refine al.at_ ?_ rfl
   conv=>whnf
   refine And.intro ?_ ?_<;>conv=>whnf
   all_goals repeat' (first|(refine gV ?_;first|refine vE ?_|refine vI ?_|((refine gK ?_;refine vD ?_ ?_);(focus (simp[AV.norm,AV.ay,eT,bj];done))))|(refine gX ?_;first|refine xB ?_|(refine BxN.mk ?_ ?_;(focus (simp[AV.norm,AV.ay,eT,bj];done))))|exact True.intro)<;>conv=>whnf
  .obtain ⟨g,c⟩:∃g,r.guard[j]? =some g:=⟨_,zA t⟩;have i:=u.2 g (zE c);have C:=vy (jo r order k) r.guard j;have f:=sM r order k j;obtain⟨n,w,v,hs,a,b⟩:=sN (order:=order) k c i;generalize bj r order k j=y at*;generalize bj r order k (j+1)=o at*;generalize eT (jo r order k) r.guard (j+1)=p at*;generalize eT (jo r order k) r.guard j=z at*
   cases n with
   |true=>
    have hs:=hs.1 rfl;have a:=a.1 rfl;clear b
    conv=>whnf
    repeat' (first|(refine gC ?_;first|refine cY ?_|refine cN ?_|refine .not ?_|refine gD (cI ?_))|refine gW (wI ?_)|refine gN (nS ?_)|refine gI (gM (iE ?_))|(refine gE ?_;refine eLb ?_))<;>conv=>whnf
    refine⟨trivial,?_⟩;refine al.atC 3 ?_ rfl rfl rfl rfl (by first|rfl|(repeat' (first|rfl|refine ao (row_allI _ _ _) ?_|refine ao (az _ _ _) ?_|refine bLtMp ?_|refine aE ?_|refine bLtCells rfl ?_)))
    conv=>whnf
    refine And.intro ?_ ?_<;>conv=>whnf
    all_goals repeat' (first|(refine gV ?_;first|refine vE ?_|refine vI ?_|(refine WkN.sl ?_ ?_;(focus (simp[AV.norm,AV.ay,hs,a];done))))|(refine gX ?_;first|refine xB ?_|(refine BxN.mk ?_ ?_;(focus (simp[AV.norm,AV.ay,hs,a];done))))|exact True.intro)<;>conv=>whnf
   |false=>
    cases w with
    |true=>
     have hs:=hs.2.1 ⟨rfl,rfl⟩;have a:=a.2.1 ⟨rfl,rfl⟩
     conv=>whnf
     repeat' (first|(refine gF ?_;refine ae.to (b (by first|rfl|(repeat' (first|rfl|refine ao (row_allI _ _ _) ?_|refine ao (az _ _ _) ?_|refine bLtMp ?_|refine aE ?_|refine bLtCells rfl ?_))) rfl) ?_)|(refine gC ?_;first|refine cY ?_|refine cN ?_|refine .not ?_|refine gD (cI ?_))|refine gW (wI ?_)|refine gN (nS ?_)|refine gI (gM (iE ?_))|(refine gE ?_;refine eLb ?_)|refine gS (eSb ?_))<;>conv=>whnf
     refine⟨trivial,?_⟩;refine al.atC 3 ?_ rfl rfl rfl rfl (by first|rfl|(repeat' (first|rfl|refine ao (row_allI _ _ _) ?_|refine ao (az _ _ _) ?_|refine bLtMp ?_|refine aE ?_|refine bLtCells rfl ?_)))
     conv=>whnf
     refine And.intro ?_ ?_<;>conv=>whnf
     all_goals repeat' (first|(refine gV ?_;first|refine vE ?_|refine vI ?_|(refine WkN.sl ?_ ?_;(focus (simp[AV.norm,AV.ay,hs,a];done))))|(refine gX ?_;first|refine xB ?_|(refine BxN.mk ?_ ?_;(focus (simp[AV.norm,AV.ay,hs,a];done))))|exact True.intro)<;>conv=>whnf
    |false=>
     have hs:=hs.2.2 ⟨rfl,rfl⟩;have a:=a.2.2 ⟨rfl,rfl⟩
     conv=>whnf
     repeat' (first|(refine gF ?_;refine ae.to (b (by first|rfl|(repeat' (first|rfl|refine ao (row_allI _ _ _) ?_|refine ao (az _ _ _) ?_|refine bLtMp ?_|refine aE ?_|refine bLtCells rfl ?_))) rfl) ?_)|(refine gC ?_;first|refine cN ?_|refine .not ?_|refine gD (cI ?_))|refine gW (wI ?_)|refine gN (nS ?_)|refine gI (gM (iE ?_))|(refine gE ?_;refine eLb ?_))<;>conv=>whnf
     refine⟨trivial,?_⟩;refine al.atC 3 ?_ rfl rfl rfl rfl (by first|rfl|(repeat' (first|rfl|refine ao (row_allI _ _ _) ?_|refine ao (az _ _ _) ?_|refine bLtMp ?_|refine aE ?_|refine bLtCells rfl ?_)))
     conv=>whnf
     refine And.intro ?_ ?_<;>conv=>whnf
     all_goals repeat' (first|(refine gV ?_;first|refine vE ?_|refine vI ?_|(refine WkN.sl ?_ ?_;(focus (simp[AV.norm,AV.ay,hs,a];done))))|(refine gX ?_;first|refine xB ?_|(refine BxN.mk ?_ ?_;(focus (simp[AV.norm,AV.ay,hs,a];done))))|exact True.intro)<;>conv=>whnf
  conv=>whnf
  repeat' (first|(refine gC ?_;(refine gD ?_;first|refine cI ?_|refine cJ ?_))|refine gL (.map ?_)|refine gN (nS ?_)|refine ag.nrm ?_)<;>conv=>whnf
  exact OC e
end Go.CK
namespace Go.CK
open Go.AM Go.Proofs
def dP(r:Rl)(o:Int)(order:List Int):Nat->List (List Int)
 |0=>[]
 |k+1=>dP r o order k++match order[k]? with
  |none=>[]
  |some h=>[a8 r (o::order.take k) h]
theorem pE{r:Rl}{o:Int}{order:List Int}{k:Nat}{h:Int}(hk:order[k]? =some h):dP r o order (k+1)=dP r o order k++[a8 r (o::order.take k) h]:=by simp[dP,hk]
theorem fI{r:Rl}{o:Int}{order:List Int}:∀{k:Nat},k<=order.length->(dP r o order k).length=k
 |0,_=>rfl
 |k+1,h=>by
  rw[pE (zA h),zC,fI (by omega)];rfl
def GB(r:Rl)(o:Oc)(order:List Int):Pl:=⟨o,order,dP r o.head order order.length,AK r (o.head::order)⟩
theorem AH:Plain mI 1:=⟨by decide,λ_=>rfl,λx c a=>by
 obtain rfl:c=slA aG x:=by simpa[mI,slA,AV.cells] using a
 rfl,λx c a=>by
 obtain rfl:c=slA aG x:=by simpa[mI,slA,AV.cells] using a
 rfl⟩
theorem aOs{e:List (Nat×AV)}{bs:List Box}{lo:Nat}{b m k:Nat}{l:List (List Int)}{x:List Int}{o:Cap}{K:AV->St->Prop}(h:∀k',(l++[x]).length<=k'->K (.bsl bs.length (l++[x]).length k') ⟨e,bs.set b .dead++[aJ mI 1 k' (l++[x])],lo⟩)(hb:bs[b]? =some (aJ mI 1 k l):=by first|rfl|assumption)(hm:m=l.length:=by first|rfl|assumption)(hk:m<=k:=by omega)(a:m+1<=4294967296:=by first|omega|assumption):oe 1 ⟨e,bs,lo⟩ (.bsl b m k) (.sl o [.sl .no (x.map aG)]) K:=oe.one (x:=x) AH hb hm hk a h
set_option maxHeartbeats 1000000 in
theorem EL{r:Rl}{o:Oc}{order:List Int}(hr:r.ok2)(p:r.okG)(t:order.length<=90)(n:∀h∈order,0<=h/\h<r.ai.length):Fun Tryz.prog 129 [r.wh,o.av,slA aG order] (GB r o order).av:=by
 have g:=hr.ok;refine Fun.of (ny (by simp) ?_) rfl rfl
 conv=>whnf
 repeat' refine gL (.map ?_)<;>conv=>whnf
 refine ax.by (fb:=true) (λe (q:Nat×Nat)=>⟨(e.bD [(8,.sl (.own 1) ((o.head::order.take q.1).map aG)),(19,.int .i64 q.1)]).env,[.cells [.str r.name,.sl .no (r.keep.map At.av),.sl .no (r.remove.map At.av),.sl .no (r.guard.map Gl.av),.sl .no (r.body.map Gl.av),.int .i64 r.vars,.sl .no (r.ai.map At.av)],.cells [.int .i64 o.rule,.int .i64 o.head,.bool o.kept],.cells [.int .i64 0,.int .i64 0,.bool false,.sl .full [],.sl .full [],.sl .full []],.cells [.int .i64 o.rule,.int .i64 o.head,.bool o.kept,.sl .no (order.map aG),.bsl 4 (dP r o.head order q.1).length q.2,.sl .full []],aJ mI 1 q.2 (dP r o.head order q.1)],0⟩) (λq=>q.1<=order.length/\(dP r o.head order q.1).length<=q.2) (λq=>order.length-q.1) (0,0) ⟨zJ _,zG _⟩ ?_ ?_
 .refine al.tE (.bx 3 4) rfl rfl ?_;refine al.at_ ?_ rfl
  conv=>whnf
  refine And.intro ?_ ?_<;>conv=>whnf
  all_goals repeat' (first|(refine gV ?_;first|refine vE ?_|refine vI ?_|((refine gK ?_;refine vD ?_ ?_);(focus (simp[AV.norm,AV.ay,dP,cellsOf];done))))|(refine gX ?_;first|refine xB ?_|(refine BxN.mk ?_ ?_;(focus (simp[AV.norm,AV.ay,dP,cellsOf];done))))|exact True.intro)<;>conv=>whnf
 rintro⟨k,s⟩ ⟨c,i⟩;dsimp only at c i|-;have m:=fI (r:=r) (o:=o.head) c
 by_cases hk:k<order.length
 .obtain ⟨h,a⟩:∃h,order[k]? =some h:=⟨_,zA hk⟩;have d:=n h (zE a)
  have f:order.take (k+1)=order.take k++[h]:=by
   rw[List.take_succ_eq_append_getElem hk,(zB.1 a).2]
  have b:=pE (r:=r) (o:=o.head) a;have l:=fI (r:=r) (o:=o.head) (k:=k+1) hk
  conv=>whnf
  repeat' (first|(refine gG ?_;refine aW.fn (CW (r:=r) (done:=o.head::order.take k) (head:=h) g (by simp;omega) d.1 d.2) ?_)|refine gC (gD (cI ?_))|refine gI (gM (iE ?_)))<;>conv=>whnf
  refine aOs λk' j=>?_
  conv=>whnf
  repeat' (first|refine gW (wI ?_)|refine gN (nS ?_))<;>conv=>whnf
  refine⟨(k+1,k'),⟨⟨hk,by rw[b];exact j⟩,by simp;omega⟩,?_⟩
  dsimp only;rw[b,f];refine al.gcB AH [.cells [.str r.name,.sl .no (r.keep.map At.av),.sl .no (r.remove.map At.av),.sl .no (r.guard.map Gl.av),.sl .no (r.body.map Gl.av),.int .i64 r.vars,.sl .no (r.ai.map At.av)],.cells [.int .i64 o.rule,.int .i64 o.head,.bool o.kept],.cells [.int .i64 0,.int .i64 0,.bool false,.sl .full [],.sl .full [],.sl .full []],.cells [.int .i64 o.rule,.int .i64 o.head,.bool o.kept,.sl .no (order.map aG),.top,.sl .full []]] [.dead] 3 4 _ rfl rfl rfl rfl rfl rfl ?_;refine al.at_ ?_ rfl
  conv=>whnf
  refine And.intro ?_ ?_<;>conv=>whnf
  all_goals repeat' (first|(refine gV ?_;first|refine vE ?_|refine vI ?_|(refine WkN.sl ?_ ?_;(focus (simp[AV.norm,AV.ay,];done))))|(refine gX ?_;first|refine xB ?_|(refine BxN.mk ?_ ?_;(focus (simp[AV.norm,AV.ay,];done))))|exact True.intro)<;>conv=>whnf
 .obtain rfl:k=order.length:=by omega
  rw[zz]
  conv=>whnf
  repeat' (first|(refine gF ?_;refine ae.fn (JM (r:=r) (order:=o.head::order) hr p (by simp;omega)) ?_)|refine gC (gD (cJ ?_)))<;>conv=>whnf
  refine ag.mm AH 2 4 rfl rfl rfl (zG _) ?_
  conv=>whnf
  repeat' refine ag.nrm ?_<;>conv=>whnf
  rw[zz];rfl
end Go.CK
namespace Go.CK
open Go.AM Go.Proofs
theorem MG{a b:Bool}(h:a=b):AV.bool a=AV.bool b:=by rw[h]
def upI(n:Nat):List Int:=(List.range n).map λj:Nat=>(j:Int)
theorem pU(n:Nat):(upI n).length=n:=by simp[upI]
theorem Jb{n j:Nat}(h:j<n):(upI n)[j]? =some (j:Int):=by simp[upI,h]
theorem Gf{n:Nat}{x:Int}(h:x∈upI n):0<=x/\x<n:=by
 obtain⟨j,a,rfl⟩:=zk.1 h;have:=zd.1 a;omega
theorem CE{i:Nat}{x:Rl}{y:Oc×At}:∀{j:Nat},j<=x.ai.length->y∈mV i x j->y.1.rule=i/\0<=y.1.head/\y.1.head<x.ai.length/\y.1.kept=decide (y.1.head<x.keep.length)
 |0,_,h=>by cases h
 |j+1,a,h=>by
  rcases zY.1 h with h|h
  .exact CE (by omega) h
  .rw [zp] at h;subst h;exact⟨rfl,by simp only;omega,by simp only;omega,rfl⟩
theorem D2{l:List Rl}{y:Oc×At}:∀{j:Nat},y∈ic l j->∃(i:Nat) (x:Rl),l[i]? =some x/\y.1.rule=i/\0<=y.1.head/\y.1.head<x.ai.length/\y.1.kept=decide (y.1.head<x.keep.length)
 |0,h=>by cases h
 |j+1,h=>by
  rcases zY.1 h with h|h
  .exact D2 h
  .split at h
   .cases h
   .rename_i x a;exact⟨j,x,a,CE (zG _) h⟩
theorem uV{p:Pg}{o:Oc}(h:o∈p.occs):∃r,p.rules[o.rule.toNat]? =some r/\0<=o.rule/\0<=o.head/\o.head<r.ai.length/\o.kept=decide (o.head<r.keep.length):=by
 obtain⟨y,a,rfl⟩:=zk.1 h;obtain⟨i,x,d,c,b⟩:=D2 a;refine⟨x,?_,by omega,b⟩
 rw[c,Zn,d]
structure Pg.fit(p:Pg):Prop where
 ok:p.ok
 ok2:∀r∈p.rules,r.ok2
 okG:∀r∈p.rules,r.okG
 few:p.rules.length<=10000
end Go.CK
namespace Go.CK
open Go.AM Go.Proofs
theorem Hn(n:Nat):(upI n).Nodup:=by
 unfold upI List.Nodup;rw[List.pairwise_map];exact List.Pairwise.imp (λh=>by omega) (List.nodup_range (n:=n))
theorem LC{n:Nat}{x:Int}(b:0<=x)(a:x<n):x∈upI n:=by
 unfold upI;exact zk.2 ⟨x.toNat,zd.2 (by omega),by omega⟩
theorem nv{α:Type}[BEq α][LawfulBEq α]:∀{l m:List α},l.Nodup->(∀x∈l,x∈m)->m.length<=l.length->l.Perm m
 |[],m,_,_,b=>by
  have:m=[]:=zL (by simpa using b)
  subst this;exact .nil
 |x::l,m,f,hs,b=>by
  have d:x∈m:=hs x (by simp)
  have a:=Zc.1 f;have h:=List.perm_cons_erase d
  have g:l.Perm (m.erase x):=nv a.2 (λy c=>(List.mem_erase_of_ne (λe=>a.1 (by rw[<-e];exact c))).2 (hs y (by simp[c]))) (by
   rw[List.length_erase_of_mem d];simp at b;omega)
  exact(g.cons x).trans h.symm
end Go.CK
