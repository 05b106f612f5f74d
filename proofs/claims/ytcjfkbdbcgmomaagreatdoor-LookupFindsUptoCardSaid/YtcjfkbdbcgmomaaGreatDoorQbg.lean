/-
  By an AI agent.
-/
import Derived.Test.YtcjfkbdbcgmomaaGreatDoorQbf
import Derived.Ground.SlgfProg
import Derived.Shelf.SlicesE.DeleteFunc
import Derived.Shelf.Slices.SearchI
import Derived.Shelf.Slices.Clone
set_option linter.unusedSimpArgs false
set_option linter.unusedVariables false
set_option maxRecDepth 100000
namespace Go.CK
open Go.AM Go.Proofs
def wY(n:Int):Int->List Int->Bool
 |_,[]=>true
 |last,p::l=>decide (last<p)&&(decide (p<n)&&wY n p l)
def Ac.right(a:Ac):Bool:=cZ a.name&&(decide (0<=a.arity)&&(decide (a.arity<=6)&&wY a.arity (-1) a.positions))
def xY(l:List Int)(j:Nat):Int:=match j with
 |0=>-1
 |j+1=>l.getD j 0
theorem F7{a:Ac}(n:a.positions.length<=10000000):Fun Tryz.prog 43 [a.av] (.bool a.right):=by
 have c:=uq a.name;unfold Ac.right
 cases hb:cZ a.name with
 |false=>
  rw[hb] at c;refine Fun.of (ez (by simp) ?_) rfl rfl
  conv=>whnf
  repeat' (first|refine gF (ae.fn (c) ?_)|(refine gC ?_;first|refine cY ?_|refine cN ?_|refine .not ?_)|refine ag.nrm ?_)<;>conv=>whnf
  rfl
 |true=>
  rw[hb] at c
  by_cases l:0<=a.arity
  .rw [decide_eq_true l]
   by_cases h:a.arity<=6
   .rw [decide_eq_true h];refine Fun.of (ez (by simp) ?_) rfl rfl
    conv=>whnf
    repeat' (first|refine gF (ae.fn (c) ?_)|(refine gC ?_;first|refine cY ?_|refine .not ?_|refine gD (cJ ?_))|refine gL (.map ?_))<;>conv=>whnf
    refine ax.count (fb:=true) (a.positions.length) (λd j=>d.bD [(3,.int .i64 (xY a.positions j)),(23,.int .i64 j)]) (λj=>wY a.arity (-1) a.positions=wY a.arity (xY a.positions j) (a.positions.drop j)) ?_ ?_ (λj g b=>?_) (λb=>?_)
    .rfl
    .refine al.at_ ?_ rfl
     conv=>whnf
     refine And.intro ?_ ?_<;>conv=>whnf
     all_goals repeat' (first|(refine gV ?_;first|refine vE ?_|refine vI ?_|(refine WkN.norm ?_ ?_;(focus (simp[AV.norm,AV.ay,xY];done))))|refine gX (xB ?_)|exact True.intro)<;>conv=>whnf
    .obtain ⟨y,f⟩:∃y,a.positions[j]? =some y:=⟨_,zA g⟩;rw[zH g,(zB.1 f).2,wY] at b;have e:xY a.positions (j+1)=y:=by simp[xY,f]
     generalize xY a.positions j=m at*
     by_cases k:m<y
     .rw [decide_eq_true k,za] at b
      by_cases i:y<a.arity
      .rw [decide_eq_true i,za] at b
       conv=>whnf
       repeat' (first|(refine gC ?_;(refine gD ?_;first|refine cI ?_|refine cJ ?_))|refine gW (wI ?_)|refine gI (gM (iE ?_)))<;>conv=>whnf
       refine⟨by rw[e];exact b,?_⟩
       refine al.atC 1 ?_ rfl rfl rfl rfl (by first|rfl|(repeat' (first|rfl|refine ao (row_allI _ _ _) ?_|refine ao (az _ _ _) ?_|refine bLtMp ?_|refine aE ?_|refine bLtCells rfl ?_)))
       conv=>whnf
       refine And.intro ?_ ?_<;>conv=>whnf
       all_goals repeat' (first|(refine gV ?_;first|refine vE ?_|refine vI ?_)|refine gX (xB ?_)|exact True.intro)<;>conv=>whnf
      .rw [decide_eq_false i,zw] at b;rw[b]
       conv=>whnf
       repeat' (first|(refine gC ?_;(refine gD ?_;first|refine cI ?_|refine cJ ?_))|refine gI (gM (iE ?_))|refine ag.nrm ?_)<;>conv=>whnf
       all_goals rfl
     .rw [decide_eq_false k,zw] at b;rw[b]
      conv=>whnf
      repeat' (first|(refine gC ?_;first|refine cY ?_|refine gD (cI ?_))|refine gI (gM (iE ?_))|refine ag.nrm ?_)<;>conv=>whnf
      all_goals rfl
    .rw [zj,wY] at b;rw[b]
     conv=>whnf
     repeat' (first|refine gC (gD (cJ ?_))|refine ag.nrm ?_)<;>conv=>whnf
     all_goals rfl
   .rw [decide_eq_false h];refine Fun.of (ez (by simp) ?_) rfl rfl
    conv=>whnf
    repeat' (first|refine gF (ae.fn (c) ?_)|(refine gC ?_;first|refine cY ?_|refine .not ?_|(refine gD ?_;first|refine cI ?_|refine cJ ?_))|refine ag.nrm ?_)<;>conv=>whnf
    all_goals rfl
  .rw [decide_eq_false l];refine Fun.of (ez (by simp) ?_) rfl rfl
   conv=>whnf
   repeat' (first|refine gF (ae.fn (c) ?_)|(refine gC ?_;first|refine cY ?_|refine .not ?_|refine gD (cI ?_))|refine ag.nrm ?_)<;>conv=>whnf
   all_goals rfl
theorem L4{x:Ac}(a:x.positions.length<=10000000):Fun Tryz.prog 42 [x.av] (.bool (!x.right)):=by
 have h:=F7 a;refine Fun.of (uS (by simp) ?_) rfl rfl
 conv=>whnf
 repeat' (first|refine gF (ae.fn (h) ?_)|refine ag.nrm ?_)<;>conv=>whnf
theorem C5{l:List Ac}(g:l.length<=10000000)(hp:∀a∈l,a.positions.length<=10000000):Fun Tryz.prog 94 [slA Ac.av l,.fn (.func 42) [] []] (.int .i64 (eV (λx=>!x.right) l)):=by
 refine Fun.of (bE (by simp) ?_) rfl rfl
 conv=>whnf
 repeat' refine gL (.map ?_)<;>conv=>whnf
 refine ax.count (fb:=true) (l.length) (λd j=>d.bD [(8,.int .i64 j)]) (λj=>∀i x,i<j->l[i]? =some x->(!x.right)=false) ?_ ?_ (λj f b=>?_) (λb=>?_)
 .exact ch
 .exact aN
 .obtain ⟨y,e⟩:∃y,l[j]? =some y:=⟨_,zA f⟩;have c:=L4 (x:=y) (hp y (zE e))
  cases hb:(!y.right) with
  |true=>
   rw[hb] at c
   conv=>whnf
   repeat' (first|refine gF (ae.fn (c) ?_)|(refine gC ?_;first|refine cY ?_|refine gD (cI ?_))|refine gI (gM (iE ?_))|refine gH (hB ?_)|refine ag.nrm ?_)<;>conv=>whnf
   rw[fN b e hb]
  |false=>
   rw[hb] at c
   conv=>whnf
   repeat' (first|refine gF (ae.fn (c) ?_)|(refine gC ?_;first|refine cN ?_|refine gD (cI ?_))|refine gW (wI ?_)|refine gI (gM (iE ?_))|refine gH (hB ?_))<;>conv=>whnf
   refine⟨bM b e hb,?_⟩;exact aN
 .conv=>whnf
  repeat' (first|refine gC (gD (cJ ?_))|refine ag.nrm ?_)<;>conv=>whnf
  rw[jc b]
theorem vY{l:List Ac}(b:l.length<=10000000)(hp:∀a∈l,a.positions.length<=10000000):Fun Tryz.prog 41 [slA Ac.av l,.fn (.func 42) [] []] (.bool (l.any λx=>!x.right)):=by
 have h:=C5 b hp;rw[<-fh];refine Fun.of (cq (by simp) ?_) rfl rfl
 conv=>whnf
 repeat' (first|refine gF (ae.fn (h) ?_)|refine ag.nrm ?_)<;>conv=>whnf
theorem ym{l:List Int}(d:l.length<=10000000):Fun Tryz.prog 44 [slA aG l] (slA aG l):=by
 refine Fun.of (k9 (by simp) ?_) rfl rfl
 conv=>whnf
 skip;refine F9.no λb hb=>?_
 conv=>whnf
 repeat' (first|(refine gC ?_;refine ak.any (λc=>?_) (λc=>?_))|refine gN (nS ?_))<;>conv=>whnf
 .have a:l=[]:=by simpa using hb (by assumption)
  subst a
  conv=>whnf
  repeat' refine ag.nrm ?_<;>conv=>whnf
  rfl
 .conv=>whnf
  repeat' refine ag.nrm ?_<;>conv=>whnf
  rfl
end Go.CK
namespace Go.CK
open Go.AM Go.Proofs
structure mC{α:Type}(f:α->AV)(z:Nat):Prop where
 pos:0<z
 sz:∀x,(f x).cells.length=z
 de:∀x,∀c∈(f x).cells,c.aI=c
theorem mC.len{α:Type}{f:α->AV}{z:Nat}(h:mC f z)(l:List α):(cellsOf (l.map f)).length=l.length*z:=by
 rw[bC (z:=z) λy a=>by obtain⟨x,_,rfl⟩:=zk.1 a;exact h.sz x,zF]
theorem mC.mem{α:Type}{f:α->AV}{z:Nat}(h:mC f z){l:List α}{c:AV}(a:c∈cellsOf (l.map f)):c.aI=c:=by
 obtain⟨y,d,b⟩:=nH a;obtain⟨x,_,rfl⟩:=zk.1 d;exact h.de x c b
theorem mC.take{α:Type}{f:α->AV}{z:Nat}(h:mC f z)(l:List α)(p:List AV):(cellsOf (l.map f)++p).take (l.length*z)=cellsOf (l.map f):=by
 rw[<-h.len l];simp
theorem LW:mC AV.mpt 1:=⟨Zw,λ_=>rfl,λx c h=>by simp[AV.cells] at h;subst h;rfl⟩
theorem AJ:Plain Ac.av 3:=⟨by decide,λ_=>rfl,λx c h=>by
 simp[Ac.av,AV.cells] at h;rcases h with rfl|rfl|rfl<;>rfl,λx c h=>by
 simp[Ac.av,AV.cells] at h;rcases h with rfl|rfl|rfl<;>rfl⟩
theorem Cs{α:Type}{f:α->AV}{z:Nat}(h:Plain f z):mC f z:=⟨h.pos,h.sz,h.de⟩
theorem BB{α:Type}{f:α->AV}{z:Nat}(hp:mC f z){e:List (Nat×AV)}{bs:List Box}{lo:Nat}{b m k n m2 k2:Nat}{l l2:List α}{K:AV->St->Prop}(hb:bs[b]? =some (aJ f z k l))(j:bs[n]? =some (aJ f z k2 l2))(hm:m=l.length)(g:m2=l2.length)(hk:m<=k)(a:m+m2<=4294967296)
  (h:∀k',(l++l2).length<=k'->K (.bsl bs.length (l++l2).length k') ⟨e,bs.set b .dead++[aJ f z k' (l++l2)],lo⟩):oe z ⟨e,bs,lo⟩ (.bsl b m k) (.bsl n m2 k2) K:=by
 subst hm g;refine⟨ub hb ?_⟩;have d:AM.rowAt bs n=some (cellsOf (l2.map f)++List.replicate ((k2-l2.length)*z) AV.top):=ed j;simp only[se,d];rw[hp.take,hp.take];refine⟨⟨by rw[zC,hp.len];exact yA _ _,λx c=>hp.mem c⟩,⟨hp.pos,?_,a,λx c=>hp.mem c⟩,λk' i=>?_⟩
 .rw [zC,hp.len,zf,<-ZL];exact ZE _ (by omega)
 .rw [<-zg,<-jf,<-zu];have:=h k' (by simpa using i)
  simp only[zC] at this;unfold aJ at this;simp only[zC] at this;exact this
theorem s4{B:List Box}{a:Nat}{r:Box}{b:Nat}(hb:b≠a)(c:b<B.length):cellsD (B.set a .dead++[r]) b=cellsD B b:=by
 simp only[cellsD,aa];rw[zK (by rw[zm];exact c),Ze (Ne.symm hb)]
theorem aD.Jf(s:St)(b:Nat)(hb:s.bs[b]? =some (.mp [])):aD s ⟨s.env,s.bs.set b (.tab ⟨[],0,[]⟩),s.lo⟩:=λE G a w h=>by
 have d:=(zB.1 hb).1;refine⟨G,h.rp (λc=>?_) (λc=>?_) (by simp)⟩
 .exact eh hb rfl rfl c
 .rw [bd hb rfl];split
  .rename_i e;subst e;simp[ah,hb,Box.lb?];rfl
  .rfl
theorem al.Jf{s t:St}(b:Nat)(hb:s.bs[b]? =some (.mp []))(h:al ⟨s.env,s.bs.set b (.tab ⟨[],0,[]⟩),s.lo⟩ t):al s t:=⟨(aD.Jf s b hb).trans h.out⟩
structure Ol(bs:List Box)(t k:Nat)(cs:List Nat):Prop where
 row:bs[t]? =some (aJ AV.mpt 1 k cs)
 le:cs.length<=k
 few:cs.length<=10000000
 tab:∀c∈cs,∃x l,bs[c]? =some (.tab x)/\kG x l
theorem al.uj{env:List (Nat×AV)}{bs:List Box}{lo p j:Nat}{cs:List AV}{t:St}(hb:bs[p]? =some (.cells cs))(c:cs[j]? =some (.sl .full []))(h:al ⟨env,bs.set p (.cells (cs.set j (.bsl bs.length 0 0)))++[.row []],lo⟩ t):al ⟨env,bs,lo⟩ t:=by
 have a:=(zB.1 hb).1;have d:aa bs p=some cs:=by simp[aa,hb,Box.cs?]
 have b:aa (bs++[.row []]) p=some cs:=by simp[aa,zK a,hb,Box.cs?]
 refine al.tE (.bx p j) (by simp[St.at,d,c]) (by simp[St.at,b,c]) ?_
 have e:(⟨env,bs++[.row []],lo⟩:St).upd (.bx p j) (.bsl bs.length 0 0)=⟨env,bs.set p (.cells (cs.set j (.bsl bs.length 0 0)))++[.row []],lo⟩:=by
  simp only[St.upd,b,St.aU];rw[List.set_append_left _ _ a]
 show al ((⟨env,bs++[.row []],lo⟩:St).upd (.bx p j) (.bsl bs.length 0 0)) t;rw[e];exact h
def Pre(bs a:List Box):Prop:=bs.length<=a.length/\∀b,b<bs.length->a[b]? =bs[b]?
end Go.CK
namespace Go.CK
open Go.AM Go.Proofs
theorem xz{ds:List Dc}:∀{l:List Rl} {i:Int},(ng ds l i).2=0->∀r∈l,p7 ds r=0
 |[],_,_,r,hr=>by cases hr
 |x::l,i,h,r,hr=>by
  rw[ng] at h;split at h
  .rename_i a;rcases zI.1 hr with rfl|hr
   .exact a
   .exact xz h r hr
  .rename_i a;exact absurd h a
theorem DC{p:Pg}(h:(gd p).2=0):p.rules.length<=40/\∀r∈p.rules,p7 p.decls r=0:=by
 unfold gd at h;split at h
 .split at h
  .split at h
   .rename_i a;exact⟨a,xz h⟩
   .simp at h
  .rename_i b;exact absurd h b
 .simp at h
theorem Ca{ds:List Dc}{r:Rl}(h:p7 ds r=0):r.few/\r.ai.length<=4:=by
 unfold p7 at h;split at h
 .rename_i c;split at h
  .rename_i e;split at h
   .rename_i f;simp only[KP,zD,decide_eq_true_eq] at c;obtain⟨f1,f2,f3,f4⟩:=c;have d:=r.bG;exact⟨⟨by omega,by omega,f3,f4,λi a=>zS.1 e i a,λg b=>zS.1 f g b⟩,f2⟩
   .simp at h
  .simp at h
 .simp at h
theorem Mz{r:Rl}(h:r.few)(e:r.ai.length<=4):r.ok2:=by
 have d:=r.bG;refine⟨by omega,λx b=>?_⟩
 obtain⟨_,f,a⟩:=At.bh (h.ai x b);exact⟨by omega,a,λt c=>ZN (LA c) a⟩
theorem My{r:Rl}(h:r.few):r.okG:=⟨by have:=h.guard;omega,λg a=>by
 have:=(Gl.bh (h.goals g (ZB _ a))).2;omega⟩
structure Pg.chk(p:Pg):Prop where
 rules:p.rules.length<=40
 few:∀r∈p.rules,r.few
 ai:∀r∈p.rules,r.ai.length<=4
theorem N9{p:Pg}(h:(gd p).2=0):p.chk:=by
 obtain⟨b,a⟩:=DC h;exact⟨b,λr hr=>(Ca (a r hr)).1,λr hr=>(Ca (a r hr)).2⟩
theorem Pg.chk.fit{p:Pg}(h:p.chk):p.fit:=⟨λr hr=>⟨by have:=h.ai r hr;have:=r.bG;omega,r.bG⟩,λr hr=>Mz (h.few r hr) (h.ai r hr),λr hr=>My (h.few r hr),by have:=h.rules;omega⟩
theorem Pg.chk.ok8{p:Pg}(h:p.chk):p.ok8:=λr hr=>by have:=h.ai r hr;have:=r.bG;omega
theorem D4{l:List Rl}(h:∀r∈l,r.ai.length<=4):∀j,(ic l j).length<=4*j
 |0=>zG _
 |j+1=>by
  have:=D4 h j;simp only[ic,zC];split
  .simp;omega
  .rename_i x a;have:=h x (zE a);rw[uW];omega
theorem Pg.chk.occs{p:Pg}(h:p.chk):p.occs.length<=160:=by
 have b:=D4 h.ai p.rules.length;have a:=h.rules;simp only[Pg.occs,zF];omega
structure Lq(p:Pg)(x:Pl):Prop where
 ex:∃r,p.rules[x.occ.rule.toNat]? =some r/\0<=x.occ.rule/\x.occ.rule<p.rules.length/\x.order.length<=4/\(∀h∈x.order,0<=h/\h<r.ai.length)/\x.known.length=x.order.length/\
  ∀(k:Nat) (h:Int),x.order[k]? =some h->x.known[k]? =some (a8 r (x.occ.head::x.order.take k) h)
theorem sS{r:Rl}{o:Int}{order:List Int}:∀{n k:Nat} {h:Int},n<=order.length->k<n->order[k]? =some h->(dP r o order n)[k]? =some (a8 r (o::order.take k) h)
 |n+1,k,h,b,hk,a=>by
  rw[pE (zA b)];have c:=fI (r:=r) (o:=o) (order:=order) (k:=n) (by omega)
  by_cases e:k<n
  .rw [zK (by omega)]
   exact sS (by omega) e a
  .obtain rfl:k=n:=by omega
   rw[zZ (by omega),c,yN]
   have:=(zB.1 a).2;simp[this]
theorem uH{p:Pg}(hp:p.chk):∀x∈allI p,Lq p x:=λx e=>by
 obtain⟨o,d,rfl⟩:=zk.1 e;obtain⟨r,b,m,l,j,n⟩:=uV d;have g:=(zB.1 b).1;have f:=hp.ai r (zE b);have a:=sP (r:=r) (keys:=nK p) l j;have c:=a.length_eq;rw[zX,pU] at c
 have he:ofI p (nK p) o=GB r o (iK r (nK p) o.head):=by
  rw[ofI,if_pos d,b]
 rw[he];refine⟨r,b,m,by show o.rule<_;omega,by show (iK r (nK p) o.head).length<=4;omega,λh i=>?_,fI (zG _),λk h hk=>?_⟩
 .exact Gf (a.mem_iff.1 (zQ _ i))
 .exact sS (zG _) (zB.1 hk).1 hk
theorem Lq.head{p:Pg}{x:Pl}(h:Lq p x){k:Nat}{n:Int}(hk:x.order[k]? =some n):∃r g,p.rules[x.occ.rule.toNat]? =some r/\r.ai[n.toNat]? =some g/\0<=n/\x.known[k]? =some (a8 r (x.occ.head::x.order.take k) n)/\cz p x k=some (g,a8 r (x.occ.head::x.order.take k) n):=by
 obtain⟨r,c,q,o,m,i,l,f⟩:=h.ex;have e:=(zB.1 hk).1;obtain⟨d,j⟩:=i n (zE hk);obtain⟨g,a⟩:∃g,r.ai[n.toNat]? =some g:=⟨_,zA (by omega)⟩
 have b:=f k n hk;refine⟨r,g,c,a,d,b,?_⟩;rw[cz,if_neg (by omega),c,Zn,hk]
 simp only[if_neg (show¬(n<0\/(r.ai.length:Int)<=n) by omega),a,b,ZS]
 rw[if_pos (by omega)]
theorem Lq.Ms{p:Pg}{x:Pl}{k:Int}{y:At×List Int}(h:cz p x k=some y):∃(j:Nat) (n:Int),k=j/\x.order[j]? =some n:=by
 unfold cz at h;split at h
 .cases h
 .rename_i a;refine⟨k.toNat,x.order[k.toNat]'(by omega),by omega,zA _⟩
theorem uJ(p:Tm->Bool)(l:List Tm):∀j,∀x∈bz p l j,0<=x
 |0,x,h=>by cases h
 |j+1,x,h=>by
  rw[bz] at h;rcases zY.1 h with h|h
  .exact uJ p l j x h
  .split at h
   .split at h
    .simp at h;omega
    .cases h
   .cases h
theorem GA{n:Int}:∀{l:List Int} {last:Int},l.Pairwise (·<·)->(∀x∈l,last<x/\x<n)->wY n last l=true
 |[],_,_,_=>rfl
 |x::l,last,hp,b=>by
  rw[ZA] at hp;obtain⟨d,c⟩:=b x (zV ..);rw[wY,decide_eq_true d,decide_eq_true c,GA hp.2 λy a=>⟨hp.1 y a,(b y (zQ _ a)).2⟩];rfl
theorem rU{r:Rl}{done:List Int}{n:Int}{g:At}(c:0<=n)(b:r.ai[n.toNat]? =some g):∀x∈a8 r done n,0<=x/\x<g.args.length:=λx a=>by
 rw[a8,if_neg (by omega),b] at a
 exact⟨uJ _ _ _ x a,pr _ _ _ x a⟩
theorem F8{r:Rl}{done:List Int}{n:Int}{g:At}(c:0<=n)(d:r.ai[n.toNat]? =some g)(hr:g.right=true):(jj g (a8 r done n)).right=true:=by
 obtain⟨f,e,_⟩:=At.bh hr;have a:=rU (done:=done) c d;have:=GA (n:=(g.args.length:Int)) (last:=-1) (Ff r done n) λx b=>⟨by have:=(a x b).1;omega,(a x b).2⟩
 simp only[jj,Ac.right,zD,decide_eq_true_eq];exact⟨f,decide_eq_true (Int.natCast_nonneg _),decide_eq_true (by exact_mod_cast e),this⟩
theorem F4{p:Pg}{x:Pl}{out:List Ac}{k:Int}{a:Ac}(h:a∈ji p x out k):a∈out\/∃y,cz p x k=some y/\a=jj y.1 y.2:=by
 unfold ji at h;split at h
 .rename_i y b;split at h
  .rcases zY.1 h with h|h
   .exact .inl h
   .simp at h;exact .inr ⟨y,b,h⟩
  .exact .inl h
 .exact .inl h
theorem D7{p:Pg}{x:Pl}{out:List Ac}{a:Ac}:∀{k:Nat},a∈my p x out k->a∈out\/∃(k':Int) (y:At×List Int),cz p x k'=some y/\a=jj y.1 y.2
 |0,h=>.inl h
 |k+1,h=>by
  rcases F4 h with h|⟨y,c,b⟩
  .exact D7 h
  .exact .inr ⟨_,y,c,b⟩
theorem wB{p:Pg}{l:List Pl}{a:Ac}:∀{j:Nat},a∈jg p l j->∃x∈l,∃(k':Int) (y:At×List Int),cz p x k'=some y/\a=jj y.1 y.2
 |0,h=>by cases h
 |j+1,h=>by
  rw[jg] at h;split at h
  .rename_i x b;rcases D7 h with h|h
   .exact wB h
   .exact ⟨x,zE b,h⟩
  .exact wB h
theorem Eb{p:Pg}(hp:p.chk):∀a∈ei p (allI p),a.right=true/\a.positions.length<=6:=λa l=>by
 obtain⟨x,i,k',y,d,rfl⟩:=wB l;obtain⟨j,n,rfl,k⟩:=Lq.Ms d;obtain⟨r,g,h,c,f,_,e⟩:=(uH hp x i).head k;rw[e] at d;cases d;have b:=(hp.few r (zE h)).ai g (zE c);refine⟨F8 f c b,?_⟩;show (a8 r _ n).length<=6;rw[a8,if_neg (by omega),c]
 exact ZN (ee _ _ _) (At.bh b).2.1
theorem wE{p:Pg}{x:Pl}{out:List Ac}{k:Int}:∀a∈out,a∈ji p x out k:=λa b=>by
 unfold ji;split
 .split
  .exact ZB _ b
  .exact b
 .exact b
theorem Ij{α:Type}{p:α->Bool}{l:List α}(h:¬eV p l<0):∃a∈l,p a=true:=by
 have:=fh p l;rw[decide_eq_true (by omega)] at this
 exact List.any_eq_true.1 this.symm
theorem F6{p:Pg}{x:Pl}{out:List Ac}{k:Int}{y:At×List Int}(h:cz p x k=some y):∃a∈ji p x out k,oM (jj y.1 y.2) a=true:=by
 unfold ji;rw[h];dsimp only;split
 .exact ⟨_,ZU _ (zp.2 rfl),by rw[oM];exact Ed _⟩
 .rename_i b;exact Ij b
theorem D6{p:Pg}{x:Pl}{out:List Ac}:∀{k:Nat},∀a∈out,a∈my p x out k
 |0,a,h=>h
 |k+1,a,h=>wE a (D6 a h)
theorem D8{p:Pg}{x:Pl}{out:List Ac}{j:Nat}{y:At×List Int}(h:cz p x j=some y):∀{k:Nat},j<k->∃a∈my p x out k,oM (jj y.1 y.2) a=true
 |k+1,d=>by
  by_cases e:j<k
  .obtain ⟨a,c,b⟩:=D8 (out:=out) h e;exact⟨a,wE a c,b⟩
  .obtain rfl:j=k:=by omega
   exact F6 h
theorem D9{p:Pg}{l:List Pl}{i:Nat}{x:Pl}{j:Nat}{y:At×List Int}(b:l[i]? =some x)(c:j<x.order.length)(h:cz p x j=some y):∀{n:Nat},i<n->∃a∈jg p l n,oM (jj y.1 y.2) a=true
 |n+1,g=>by
  rw[jg]
  by_cases e:i<n
  .obtain ⟨a,f,d⟩:=D9 b c h e;split
   .exact ⟨a,D6 a f,d⟩
   .exact ⟨a,f,d⟩
  .obtain rfl:i=n:=by omega
   rw[b];exact D8 h c
theorem qE{a:List Tm}:∀{l:List Int},(∀x∈l,0<=x/\x<a.length)->(fK a l).length=l.length
 |[],_=>rfl
 |i::r,h=>by
  obtain⟨e,d⟩:=h i (zV ..);obtain⟨t,c⟩:∃t,a[i.toNat]? =some t:=⟨_,zA (by omega)⟩
  rw[fK,if_pos ⟨e,d⟩,c,zC,qE λx b=>h x (zQ _ b)];simp;omega
end Go.CK
namespace Go.CK
open Go.AM Go.Proofs
structure Pg.size(p:Pg):Prop where
 decls:p.decls.length<=2000000
 rules:p.rules.length<=2000000
 each:∀r∈p.rules,r.size
end Go.CK
namespace Go.Proofs
open Go.Shelf
def Tryz.laysSearch_ren:Go.Shelf.Ren:=⟨λ|25=>105|31=>155|32=>156|37=>152|n=>n,λ|22=>41|3=>3|4=>4|40=>223|0=>0|n=>n,λ|n=>n⟩
theorem Tryz.Fa:Go.Proofs.Lays2.n25 Tryz.prog Tryz.laysSearch_ren:={
 mixed:=by kernel_rfl,
 f25:=Tryz.func105.trans (congrArg some (by kernel_rfl)),
 f31:=Tryz.func155.trans (congrArg some (by kernel_rfl)),
 f32:=Tryz.func156.trans (congrArg some (by kernel_rfl)),
 f37:=Tryz.func152.trans (congrArg some (by kernel_rfl)),
 t0:=Tryz.underlying0,
 a0:=Tryz.isAgg0,
 z0:=Tryz.sizeOf0,
 v0:=Tryz.zeroValue0,
 t3:=Tryz.underlying3,
 a3:=Tryz.isAgg3,
 z3:=Tryz.sizeOf3,
 v3:=Tryz.zeroValue3,
 t4:=Tryz.underlying4,
 a4:=Tryz.isAgg4,
 z4:=Tryz.sizeOf4,
 v4:=Tryz.zeroValue4,
 t22:=Tryz.underlying41,
 a22:=Tryz.isAgg41,
 z22:=Tryz.sizeOf41,
 v22:=Tryz.zeroValue41,
 t40:=Tryz.underlying223,
 a40:=Tryz.isAgg223,
 z40:=Tryz.sizeOf223,
 v40:=Tryz.zeroValue223}
def Tryz.laysCloneI_ren:Go.Shelf.Ren:=⟨λ|15=>44|n=>n,λ|22=>41|3=>3|4=>4|n=>n,λ|n=>n⟩
theorem Tryz.Fb:Go.Proofs.Lays2.n15 Tryz.prog Tryz.laysCloneI_ren:={
 mixed:=by kernel_rfl,
 f15:=Tryz.func44.trans (congrArg some (by kernel_rfl)),
 t3:=Tryz.underlying3,
 a3:=Tryz.isAgg3,
 z3:=Tryz.sizeOf3,
 v3:=Tryz.zeroValue3,
 t4:=Tryz.underlying4,
 a4:=Tryz.isAgg4,
 z4:=Tryz.sizeOf4,
 v4:=Tryz.zeroValue4,
 t22:=Tryz.underlying41,
 a22:=Tryz.isAgg41,
 z22:=Tryz.sizeOf41,
 v22:=Tryz.zeroValue41,
 i3:=by kernel_rfl}
end Go.Proofs
namespace Go.AM
open Go.CK Go.Proofs
theorem RS.drewN{E:Entry}{G:Gh}{s:St}{a:Act}{w:World}(h:RS E G s a w):∀n,RS E G s a (w.drewN n):=λn=>by
 induction n with
 |zero=>exact h
 |succ n ih=>exact ih.drew
theorem RS.Jn{E:Entry}{G:Gh}{s:St}{a:Act}{w:World}(h:RS E G s a w){b:Nat}{x:TB}(hb:s.bs[b]? =some (.tab x)){r:TR}(hr:r.row∈x.rows)(j:Nat):w.cell? ⟨r.B,j,none⟩=r.ab[j]?:=by
 obtain⟨c,_⟩:=h.tY hb hr;simp[World.cell?,c]
theorem LJ{M:Hp}{σ:Nat->Nat}{n:Nat}{r:TR}{id:Int}{args:List Value}(d:args.length=2)(a:∀j (h:j<[r.lit,AV.int .i64 id].length) v,args[j]? =some v->RV M σ n ([r.lit,AV.int .i64 id][j]) v):args=[r.val,.int .i64 id]:=by
 match args,d with
 |[u,v],_=>
  have c:=a 0 (by simp) u rfl
  have b:=a 1 (by simp) v rfl
  simp only[ZQ,Zg] at c b;rw[RV.ot c,b.aK];rfl
theorem Hu{bs:List Box}{b:Nat}{x:TB}{l:List TR}{r:TR}{id:Int}(hb:bs[b]? =some (.tab x))(g:kG x l)(hr:r∈l)(hs:r.ids.Pairwise (·<=·))(i:r.ids.length<=1000000):
  AM.Sem Tryz.prog 105 [r.lit,.int .i64 id] bs λv bs'=>v=.tup [.int .i64 (r.ids.countP (·<id):Nat),.bool (r.ids.contains id)]/\bs'=bs:=by
 intro E G a0 w args lo a hlen d;obtain rfl:=LJ hlen d;have h:=a.sI (bR G bs w 1) ⟨#[.tuple #[]],[]⟩ (Fr.refl _ _ _ a.fr.kn) rfl bs.length rfl (zG _) (λ_ _=>rfl) (λB hB=>.inl hB) rfl;refine(Any.slices_BinarySearch_int Tryz.Fa r.B 0 r.ids.length r.cap r.ids id w (zG _) (by omega) (λj c=>?_) (by rw[zz];exact hs)).mono ?_
 .rw [ZI,a.Jn hb (g.rows r hr)];rw[TR.ab,zK (by simpa using c),ZF,zA c]
  simp[List.getD,c]
 rintro e w' ⟨rfl,q,rfl⟩;rw[zz];refine⟨_,_,_,{G with cl:=fq G.cl},rfl,⟨rfl,rfl⟩,?_⟩;refine(h.drewN q).put (k:=0) Zw (.tup _ [.int .i64 _,.bool _] rfl λj c v f=>?_)
 match j,c with
 |0,_=>cases f;exact .flat (.int _ _)
 |1,_=>cases f;exact .flat (.bool _)
def tz:List Value->Nat->List Value->List Value
 |l,_,[]=>l
 |l,o,v::r=>tz (l.set o v) (o+1) r
theorem vm:∀(us l:List Value) (o:Nat),(tz l o us).length=l.length
 |[],l,o=>rfl
 |v::r,l,o=>by rw[tz,vm r];simp
theorem nJ:∀(us l:List Value) (o j:Nat),o+us.length<=l.length->(tz l o us)[j]? =if o<=j/\j<o+us.length then us[j-o]? else l[j]?
 |[],l,o,j,_=>by rw[tz,if_neg (by simp only[ZP];omega)]
 |v::r,l,o,j,h=>by
  rw[zX] at h;rw[tz,nJ r _ _ _ (by simp;omega),zX]
  by_cases a:o+1<=j/\j<o+1+r.length
  .rw [if_pos a,if_pos (by omega),show j-o=(j-(o+1))+1 by omega,List.getElem?_cons_succ]
  .rw [if_neg a]
   by_cases b:j=o
   .subst b;rw[if_pos (by omega),yN,List.getElem?_set_self (by omega)];rfl
   .rw [if_neg (by omega),Ze (by omega)]
theorem dp{b:Nat}{T:TypeId}{fz:Nat×Nat}:∀(us vs:List Value) (o:Nat) (w:World),w.heap[b]? =some (.cells vs.toArray T fz)->(w.setCells b o us).heap[b]? =some (.cells (tz vs o us).toArray T fz)/\(w.setCells b o us).tape=w.tape
 |[],vs,o,w,h=>⟨h,rfl⟩
 |v::r,vs,o,w,h=>by
  rw[World.setCells,tz];have a:=dp (b:=b) (T:=T) (fz:=fz) r (vs.set o v) (o+1) (w.setCell ⟨b,o,none⟩ v) (by simp[World.setCell,Array.getElem?_modify,h])
  exact⟨a.1,a.2.trans (by simp[World.setCell])⟩
theorem CG{α β:Type}{f:α->β}:∀{l:List α},(l.map f).Nodup->∀{p q:α},p∈l->q∈l->f p=f q->p=q
 |a::l,d,p,q,hp,g,e=>by
  rw[zP,Zc] at d;rcases zI.1 hp with c|c<;>rcases zI.1 g with b|b
  .rw [c,b]
  .exact absurd (zk.2 ⟨q,b,by rw[<-e,c]⟩) d.1
  .exact absurd (zk.2 ⟨p,c,by rw[e,b]⟩) d.1
  .exact CG d.2 c b e
theorem kG.NC{x:TB}{l:List TR}{r r':TR}(h:kG x l)(hr:r∈l)(hk:r'.key=r.key)(hB:r'.B=r.B)(d:r'.cap<=9223372036854775807):jk ⟨x.es,x.c,r'.row::x.rows.filter λq=>decide (q.2.1≠r.B)⟩ l r':=
 have ne:∀q∈l,q.key≠r'.key->q.B≠r.B:=λq b a e=>a (by rw[hk,CG h.nodB b hr e])
 have jB:∀q∈r'.row::x.rows.filter λq=>decide (q.2.1≠r.B),q.1=q.2.1:=λq b=>by
  rcases zI.1 b with rfl|b
  .rfl
  .exact h.jB q (zo.1 b).1
 ⟨h.es,λq b a=>zQ _ (zo.2 ⟨h.rows q b,decide_eq_true (ne q b a)⟩),zV ..,jB,h.nodK,h.nodB,(λq b a=>by rw[hB];exact ne q b a),h.cap,d⟩
theorem kG.ND{x:TB}{l:List TR}{r':TR}(h:kG x l)(hB:∀q∈l,q.B≠r'.B)(b:r'.cap<=9223372036854775807):jk ⟨x.es,x.c,r'.row::x.rows⟩ l r':=
 have jB:∀q∈r'.row::x.rows,q.1=q.2.1:=λq a=>by
  rcases zI.1 a with rfl|a
  .rfl
  .exact h.jB q a
 ⟨h.es,λq a _=>zQ _ (h.rows q a),zV ..,jB,h.nodK,h.nodB,(λq a _=>hB q a),h.cap,b⟩
section
variable{E:Entry}{G:Gh}{s:St}{a:Act}{w:World}
theorem RS.Ow(h:RS E G s a w){B:Nat}{w':World}(S:B<w.heap.size)(K:w'.os=w.os)(I:w'.tape=w.tape)(A:w'.output=w.output)(g:w.heap.size<=w'.heap.size)(c:∀k,k<w.heap.size->k≠B->w'.heap[k]? =w.heap[k]?)(Q:∀k,G.M B k=none)(q:∀b cs,aa s.bs b=some cs->G.σ b≠B)(y:∀p z l,s.at p=some (.sl (.own z) l)->G.cl p≠some B)(hm:E.FP B\/E.w.heap.size<=B){bs':List Box}{u:List Deferred}(hlen:bs'.length=s.bs.length)(m:∀b,aa bs' b=aa s.bs b)
  (J:Sp E.FP E.w G.M G.σ G.cl bs' u E.dd w'):RS E G ⟨s.env,bs',s.lo⟩ ⟨a.tmps,u⟩ w':=by
 have C:∀(k:Nat) (o:Obj),w.heap[k]? =some o->k<w.heap.size:=λk o hk=>(zh.1 hk).1
 have r:∀p,(⟨s.env,bs',s.lo⟩:St).at p=s.at p:=λp=>by
  cases p with
  |sl t=>rfl
  |bx b j=>simp only[St.at,m]
 have f:∀p x,s.at p=some x->aw G.σ ⟨a.tmps,u⟩ w' p=aw G.σ a w p:=λp x hp=>by
  cases p with
  |sl t=>rfl
  |bx b j=>
   simp only[St.at] at hp
   cases hb:aa s.bs b with
   |none=>rw[hb] at hp;cases hp
   |some cs=>simp only[aw];rw[bN (c _ (h.blt hb) (q b cs hb))]
 refine⟨⟨K.trans h.fr.os,I.trans h.fr.tape,A.trans h.fr.output,ZN h.fr.size g,h.fr.le,λB' d P=>?_,h.fr.mem,h.fr.kn.keep (c _ h.fr.kn.lt (h.fr.kn.ne Q))⟩,λb i v F=>?_,h.nt,λp x hp=>?_,λb j x hp=>?_,λb cs hb=>?_,λb cs hb=>?_,λb W cs O hb D e=>?_,λp z l hp=>?_,h.clinj,λp B' d b cs hb=>?_,λp B' d=>⟨ZT (h.cllt p B' d).1 g,(h.cllt p B' d).2⟩,h.lo,by simp only[hlen];exact h.len,h.sig,J⟩
 .have:B'≠B:=λe=>by
   subst e;rcases hm with n|n
   .exact P n
   .omega
  rw[c B' (ZT d h.fr.size) this];exact h.fr.heap B' d P
 .have n:=h.ok b i v F
  have:b≠B:=λe=>by
   subst e;rw[Q] at F;cases F
  simp only[Hp.of] at n|-;rw[bN (c b (Hp.lt h.ok F) this)];exact n
 .rw [r] at hp;rw[f p x hp,hlen];exact h.val p x hp
 .rw [r] at hp;rw[f _ x hp];exact h.one b j x hp
 .rw [m] at hb;obtain⟨vs,T,n,N⟩:=h.box b cs hb;exact⟨vs,T,by rw[c _ (C _ _ n) (q b cs hb)];exact n,N⟩
 .rw [m] at hb;exact h.bmem b cs hb
 .rw [m] at hb D;exact h.inj b W cs O hb D e
 .rw [r] at hp;obtain⟨X,k,n,N,L⟩:=h.own p z l hp;refine⟨X,k,by rw[f p _ hp];exact n,N,?_⟩
  rcases L with L|⟨B',d,V,H⟩
  .exact .inl L
  .obtain ⟨vs,T,R,U⟩:=H.cells;exact .inr ⟨B',d,V,H.lt,⟨vs,T,by rw[c B' (C _ _ R) (λe=>y p z l hp (e▸d))];exact R,U⟩,H.free,H.mine⟩
 .rw [m] at hb;exact h.clbox p B' d b cs hb
theorem RS.HG(h:RS E G s a w){b:Nat}{x:TB}(hb:s.bs[b]? =some (.tab x)){B:Nat}{o o':Obj}(hr:(B,B,o)∈x.rows){w':World}(hw:w'.heap[B]? =some o')(I:w'.os=w.os)(H:w'.tape=w.tape)(A:w'.output=w.output)(v:w.heap.size<=w'.heap.size)
  (f:∀k,k<w.heap.size->k≠B->w'.heap[k]? =w.heap[k]?):RS E G ⟨s.env,s.bs.set b (.tab ⟨x.es,x.c,(B,B,o')::x.rows.filter λq=>decide (q.2.1≠B)⟩),s.lo⟩ a w':=by
 obtain⟨U,u,P⟩:=h.tY hb hr;have r:ah s.bs b=some x.lb:=by simp[ah,hb,Box.lb?]
 have hB:B<w.heap.size:=(h.cllt _ _ u).1;refine h.Ow hB I H A v f P (λc cs d=>h.clbox _ _ u c cs d) (λp z l hp L=>?_) (h.cllt _ _ u).2 (by simp) (eh hb rfl rfl) ⟨λB0 n hs=>?_,λc z d=>?_,λc Q z O d g e=>?_,h.sp.ds,λc z d j B0 n C=>?_⟩
 .have:=h.clinj _ _ _ L u;subst this;simp[St.at,aa,hb,Box.cs?] at hp
 .have key:w.heap[B0]? =some n/\(∀p,G.cl p≠some B0)/\(E.FP B0\/E.w.heap.size<=B0):=by
   rcases hs with ⟨c,z,d,e,D⟩|⟨hm,D⟩
   .rw [bd hb rfl] at d;split at d
    .rename_i m;cases d;subst m;exact h.sp.ob B0 n (.inl ⟨c,x.lb,r,e,D⟩)
    .exact h.sp.ob B0 n (.inl ⟨c,z,d,e,D⟩)
   .exact h.sp.ob B0 n (.inr ⟨hm,D⟩)
  obtain⟨F,t,N⟩:=key;exact⟨by rw[f B0 (zh.1 F).1 (λe=>t _ (e▸u))];exact F,t,N⟩
 .rw [bd hb rfl] at d;split at d
  .cases d;exact⟨(λ_ _ _ h=>by cases h),zJ _,λc d=>absurd d (Zj _)⟩
  .exact h.sp.base c z d
 .rw [bd hb rfl] at d g;split at d
  .rename_i m;split at g
   .rename_i i;rw[m,i]
   .rename_i i;rw[m] at e;exact absurd (h.sp.inj Q b O _ g r e.symm) i
  .rename_i m;split at g
   .rename_i i;rw[i] at e;exact absurd (h.sp.inj c b z _ d r e) m
   .exact h.sp.inj c Q z O d g e
 .have old:∀y,ah s.bs c=some y->(j,B0,n)∈y.rs->B0≠B->w'.heap[B0]? =some n/\G.cl (.bx c j)=some B0/\∀k,G.M B0 k=none:=λy R K J=>by
   obtain⟨F,t,N⟩:=h.sp.rows c y R j B0 n K;exact⟨by rw[f B0 (h.cllt _ _ t).1 J];exact F,t,N⟩
  rw[bd hb rfl] at d;split at d
  .rename_i m;cases d;subst m;rcases zI.1 C with e|C
   .cases e;exact⟨hw,u,P⟩
   .obtain ⟨T,S⟩:=zo.1 C;exact old _ r T (of_decide_eq_true S)
  .rename_i m;refine old z d C λe=>?_;obtain⟨_,t,_⟩:=h.sp.rows c z d j B0 n C;rw[e] at t;have:=h.clinj _ _ _ t u;cases this;exact m rfl
theorem RS.K5(h:RS E G s a w){b:Nat}{x:TB}(hb:s.bs[b]? =some (.tab x))(R:∀q∈x.rows,q.1=q.2.1){B:Nat}{o:Obj}(A:w.heap[B]? =some o)(hk:o.isCells=true)(hm:E.FP B\/E.w.heap.size<=B)(Z:∀k,G.M B k=none)(i:∀p,G.cl p≠some B)(J:∀c cs,aa s.bs c=some cs->G.σ c≠B):
  RS E {G with cl:=λp=>if p=.bx b B then some B else G.cl p} ⟨s.env,s.bs.set b (.tab ⟨x.es,x.c,(B,B,o)::x.rows⟩),s.lo⟩ a w:=by
 have m:ah s.bs b=some x.lb:=by simp[ah,hb,Box.lb?]
 have hlen:(s.bs.set b (.tab ⟨x.es,x.c,(B,B,o)::x.rows⟩)).length=s.bs.length:=by simp
 have r:=eh (y:=.tab ⟨x.es,x.c,(B,B,o)::x.rows⟩) hb rfl rfl
 have D:∀p,(⟨s.env,s.bs.set b (.tab ⟨x.es,x.c,(B,B,o)::x.rows⟩),s.lo⟩:St).at p=s.at p:=λp=>by
  cases p with
  |sl t=>rfl
  |bx c j=>simp only[St.at,r]
 have O:∀p y,s.at p=some y->p≠.bx b B:=λp y hp e=>by
  subst e;simp[St.at,aa,hb,Box.cs?] at hp
 have N:=(zh.1 A).1
 have n:∀p B',(if p=.bx b B then some B else G.cl p)=some B'->(p=.bx b B/\B'=B)\/(p≠.bx b B/\G.cl p=some B'):=λp B' hp=>by
  split at hp
  .rename_i e;cases hp;exact .inl ⟨e,rfl⟩
  .rename_i e;exact .inr ⟨e,hp⟩
 refine⟨h.fr,h.ok,h.nt,λp y hp=>?_,λc j y hp=>?_,λc cs d=>?_,λc cs d=>?_,λc L cs T d f e=>?_,λp z l hp=>?_,λp q B' hp Y=>?_,λp B' hp c cs d=>?_,λp B' hp=>?_,h.lo,by rw[hlen];exact h.len,h.sig,⟨λB0 C hs=>?_,λc z d=>?_,λc L z U d f e=>?_,h.sp.ds,λc z d j B0 C I=>?_⟩⟩
 .rw [D] at hp;rw[hlen];exact h.val p y hp
 .rw [D] at hp;exact h.one c j y hp
 .rw [r] at d;exact h.box c cs d
 .rw [r] at d;exact h.bmem c cs d
 .rw [r] at d f;exact h.inj c L cs T d f e
 .rw [D] at hp;obtain⟨ad,k,h1,h2,h3⟩:=h.own p z l hp;refine⟨ad,k,h1,h2,h3.imp_right λ⟨B',H,F⟩=>⟨B',?_,F⟩⟩;simp only[if_neg (O p _ hp)];exact H
 .rcases n p B' hp with ⟨W,g⟩|⟨W,g⟩<;>rcases n q B' Y with ⟨V,K⟩|⟨V,K⟩
  .rw [W,V]
  .exact absurd (g▸K) (i q)
  .exact absurd (K▸g) (i p)
  .exact h.clinj p q B' g K
 .rw [r] at d;rcases n p B' hp with ⟨_,g⟩|⟨_,g⟩
  .rw [g];exact J c cs d
  .exact h.clbox p B' g c cs d
 .rcases n p B' hp with ⟨_,g⟩|⟨_,g⟩
  .rw [g];exact⟨N,hm⟩
  .exact h.cllt p B' g
 .have key:Spc G.σ s.bs a.defers B0 C:=by
   rcases hs with ⟨c,z,d,e,A⟩|⟨hm,A⟩
   .rw [bd hb rfl] at d;split at d
    .rename_i v;cases d;subst v;exact .inl ⟨c,x.lb,m,e,A⟩
    .exact .inl ⟨c,z,d,e,A⟩
   .exact .inr ⟨hm,A⟩
  obtain⟨H,F,S⟩:=h.sp.ob B0 C key;refine⟨H,λp hp=>?_,S⟩;rcases n p B0 hp with ⟨_,g⟩|⟨_,g⟩
  .rw [g,A] at H;cases H;rw[key.rP] at hk;cases hk
  .exact F p g
 .rw [bd hb rfl] at d;split at d
  .cases d;exact⟨(λ_ _ _ h=>by cases h),zJ _,λc d=>absurd d (Zj _)⟩
  .exact h.sp.base c z d
 .rw [bd hb rfl] at d f;split at d
  .rename_i v;split at f
   .rename_i u;rw[v,u]
   .rename_i u;rw[v] at e;exact absurd (h.sp.inj L b U _ f m e.symm) u
  .rename_i v;split at f
   .rename_i u;rw[u] at e;exact absurd (h.sp.inj c b z _ d m e) v
   .exact h.sp.inj c L z U d f e
 .have old:∀y,ah s.bs c=some y->(j,B0,C)∈y.rs->(c=b->j≠B)->w.heap[B0]? =some C/\(if (Pl.bx c j)=.bx b B then some B else G.cl (.bx c j))=some B0/\∀k,G.M B0 k=none:=λy X Q P=>by
   obtain⟨H,F,S⟩:=h.sp.rows c y X j B0 C Q;refine⟨H,?_,S⟩;rw[if_neg (λe=>by cases e;exact P rfl rfl)];exact F
  rw[bd hb rfl] at d;split at d
  .rename_i v;cases d;subst v;rcases zI.1 I with e|I
   .cases e;exact⟨A,if_pos rfl,Z⟩
   .refine old _ m I λ_ e=>?_;have h8:=R _ I;obtain⟨_,F,_⟩:=h.sp.rows c _ m j B0 C I;exact i _ (F.trans (congrArg some (show B0=B from h8.symm.trans e)))
  .rename_i v;exact old z d I λe=>absurd e v
end
theorem Mq{M:Hp}{σ:Nat->Nat}{n vb:Nat}{a:AV}{at_:Int}{u:Value}{args:List Value}(g:args.length=3)(i:∀v,RV M σ n a v->v=u)(b:∀j (h:j<[a,AV.int .i64 at_,AV.bsl vb 1 1].length) v,args[j]? =some v->RV M σ n ([a,AV.int .i64 at_,AV.bsl vb 1 1][j]) v):args=[u,.int .i64 at_,.slice (some ⟨σ vb,0,none⟩) 1 1]:=by
 match args,g with
 |[x,y,z],_=>
  have f:=b 0 (by simp) x rfl
  have d:=b 1 (by simp) y rfl
  have c:=b 2 (by simp) z rfl
  simp only[ZQ,Zg] at f d c;obtain⟨k,e,_,_,_,he⟩:=c.cj;rw[i _ f,d.aK,e,he (by omega)]
theorem qW{w:World}{B:Nat}{vs:List Value}{T:TypeId}(h:w.heap[B]? =some (.cells vs.toArray T (0,0)))(j:Nat):w.cell? ⟨B,j,none⟩=vs[j]?/\w.frozen? ⟨B,j,none⟩=false:=by
 constructor
 .simp [World.cell?,h]
 .simp [World.frozen?,h]
def hU(l:List Int)(k:Nat)(id:Int):List Int:=l.take k++id::l.drop k
theorem qN(l:List Int)(k:Nat)(id:Int):(hU l k id).length=l.length+1:=by
 simp only[hU,zC,zX,zn,Zd];omega
theorem Kb{ids:List Int}{junk:List Value}{k:Nat}{id:Int}(hk:k<=ids.length)(c:junk≠[]):
  tz (tz (ids.map (Value.int .i64)++junk) (k+1) ((ids.map (Value.int .i64)).drop k)) k [.int .i64 id]=(hU ids k id).map (Value.int .i64)++junk.drop 1:=by
 have b:0<junk.length:=List.length_pos_iff.2 c;refine Zo λj=>?_;rw[nJ _ _ _ _ (by rw[vm];simp;omega),nJ _ _ _ _ (by simp;omega)]
 simp only[zX,ZP,Zd,zF,hU]
 by_cases e:j=k
 .subst e;rw[if_pos (by omega),yN,zK (by simp;omega),ZF,zZ (by simp;omega)]
  simp[yH hk]
 .rw [if_neg (by omega)]
  by_cases a:k+1<=j/\j<k+1+(ids.length-k)
  .rw [if_pos a,List.getElem?_drop,zK (by simp;omega),ZF,ZF,zZ (by simp;omega)]
   simp only[zn,yH hk];rw[show j-k=(j-(k+1))+1 by omega,List.getElem?_cons_succ,List.getElem?_drop]
  .rw [if_neg a]
   by_cases d:j<k
   .rw [zK (by simp;omega),zK (by simp;omega),ZF,ZF,zK (by simp;omega),List.getElem?_take_of_lt d]
   .rw [zZ (by simp;omega),zZ (by simp;omega),List.getElem?_drop]
    simp only[zF,zC,zn,zX,Zd,yH hk];congr 1;omega
end Go.AM
