/-
  Texts of this aX joined (wip/gen/bundle.py),those declarations only that are needed:TrmA TrmB TrmC Vars VarsB. By an AI agent.
-/
import Derived.Test.YtpihbplamelcnaaGreatBau
set_option linter.unusedSimpArgs false
set_option linter.unusedVariables false
set_option maxRecDepth 100000
namespace Go.CK
open Go.AM Go.Proofs
theorem wH{p:Prop}[Decidable p](h:¬p):AV.bool false=AV.bool (decide p):=by rw[decide_eq_false h]
theorem Gu{p:Prop}[Decidable p](h:p):AV.bool true=AV.bool (decide p):=by rw[decide_eq_true h]
theorem NX{x:Int}:Fun Tryz.prog 131 [.int .i64 x] (.bool false):=by
 refine Fun.of (uu (by simp) ?_) rfl rfl
 conv=>whnf
 repeat' refine ae.nrm ?_<;>conv=>whnf
 simp
theorem NW{x:ByteArray}:Fun Tryz.prog 132 [.str x] (.bool false):=by
 refine Fun.of (qv (by simp) ?_) rfl rfl
 conv=>whnf
 repeat' refine ae.nrm ?_<;>conv=>whnf
 simp
theorem Js{x y:Int}:Fun Tryz.prog 109 [.int .i64 x,.int .i64 y] (.int .i64 (gq x y)):=by
 refine Fun.of (rK (by simp) ?_) rfl rfl
 conv=>whnf
 repeat' (first|refine gF (aa.fn (NX) ?_)|(refine gC ?_;first|refine cN ?_|refine ak.lt (λhc=>?_) (λhc=>?_))|refine ae.nrm ?_)<;>conv=>whnf
 .rw [gq,if_pos (by omega)]
 .rw [gq,if_neg (by omega),if_pos (by omega)]
 .rw [gq,if_neg (by omega),if_neg (by omega)]
theorem Jr{x y:ByteArray}:Fun Tryz.prog 111 [.str x,.str y] (.int .i64 (qw x y)):=by
 refine Fun.of (oB (by simp) ?_) rfl rfl
 conv=>whnf
 repeat' (first|refine gF (aa.fn (NW) ?_)|(refine gC ?_;first|refine cN ?_|refine .not ?_|refine cNa ?_|with_reducible refine ak.or ?_|refine ak.dec (λhc=>?_) (λhc=>?_)|refine ak.any (λhc=>?_) (λhc=>?_))|refine ae.nrm ?_)<;>conv=>whnf
 .simp [qw,fG, *]
 .simp [qw,fG, *]
 .simp [qw,fG, *]
theorem rC{x y:Int}:Fun Tryz.prog 119 [.int .i64 x,.int .i64 y] (.int .i64 (gq x y)):=by
 refine Fun.of (mF (by simp) ?_) rfl rfl
 conv=>whnf
 repeat' (first|(refine gC ?_;refine ak.lt (λhc=>?_) (λhc=>?_))|refine ae.nrm ?_)<;>conv=>whnf
 .rw [gq,if_pos (by omega)]
 .rw [gq,if_neg (by omega),if_pos (by omega)]
 .rw [gq,if_neg (by omega),if_neg (by omega)]
theorem E5{x y:ByteArray}:Fun Tryz.prog 121 [.str x,.str y] (.int .i64 (qw x y)):=by
 refine Fun.of (lN (by simp) ?_) rfl rfl
 conv=>whnf
 repeat' (first|(refine gC ?_;first|refine .not ?_|refine cNa ?_|with_reducible refine ak.or ?_|refine ak.dec (λhc=>?_) (λhc=>?_)|refine ak.any (λhc=>?_) (λhc=>?_))|refine ae.nrm ?_)<;>conv=>whnf
 .simp [qw,fG, *]
 .simp [qw,fG, *]
 .simp [qw,fG, *]
def orL:List Int->Int
 |[]=>0
 |x::l=>orI x (orL l)
theorem Fi{l:List Int}{j:Nat}{x:Int}(h:l[j]? =some x):orL (l.drop j)=orI x (orL (l.drop (j+1))):=by
 obtain⟨h1,rfl⟩:=zB.1 h;rw[zH h1,orL]
theorem Pr{l:List Int}:Fun Tryz.prog 112 [slA bM l] (.int .i64 (orL l)):=by
 refine Fun.assume rfl λhg0=>?_;have hg:=(aJ (hg0 (slA bM l) (by simp))).1
 refine Fun.of (BA (by simp) ?_) rfl rfl
 conv=>whnf
 repeat' refine gL (.map ?_)<;>conv=>whnf
 refine ax.count (fb:=true) (l.length) (λst_ j=>st_.dO [(8,.int .i64 j)]) (λj=>orL (l.drop j)=orL l) ?_ ?_ (λj hj hij=>?_) (λhij=>?_)
 .rfl
 .exact aH
 .conv=>whnf
  repeat' (first|(refine gC ?_;first|refine .not ?_|refine gD (cI ?_)|refine ak.dec (λhc=>?_) (λhc=>?_))|refine gW (wI ?_)|(refine gI ?_;(refine gM ?_;refine iH λx hx=>?_))|refine ae.nrm ?_)<;>conv=>whnf
  .rw [Fi (by assumption)] at hij
   refine⟨?_,?_⟩
   .rw [<-hij];simp[orI, *]
   .exact aH
  .rw [Fi (by assumption),LW (by assumption)] at hij
   rw[hij]
 .conv=>whnf
  repeat' (first|refine gC (gD (cJ ?_))|refine ae.nrm ?_)<;>conv=>whnf
  rw[zj] at hij;rw[<-hij];rfl
theorem Ps{a b c:Int}:Fun Tryz.prog 112 [.sl .no [.int .i64 a,.int .i64 b,.int .i64 c]] (.int .i64 (orI a (orI b c))):=by
 have:=Pr (l:=[a,b,c]);have e:orL [a,b,c]=orI a (orI b c):=by simp only[orL,orI];repeat' split<;>first|rfl|omega
 rwa [e] at this
theorem IQ{k:Int}:Fun Tryz.prog 110 [.int .i64 k] (.int .i64 (ir k)):=by
 refine Fun.of (DF (by simp) ?_) rfl rfl
 conv=>whnf
 repeat' (first|(refine gC ?_;refine ak.dec (λhc=>?_) (λhc=>?_))|refine ae.nrm ?_)<;>conv=>whnf
 all_goals simp[ir, *]
theorem Gj{t:Tm}:Fun Tryz.prog 120 [t.avw] (.int .i64 (ir t.kind)):=by
 refine Fun.of (lP (by simp) ?_) rfl rfl
 conv=>whnf
 repeat' (first|(refine gC ?_;refine ak.dec (λhc=>?_) (λhc=>?_))|refine ae.nrm ?_)<;>conv=>whnf
 all_goals simp[ir, *]
theorem I7{l m:List Tm}(hl:l.length=m.length)(ih:∀t∈l,∀b:Tm,Fun Tryz.prog 89 [t.avw,b.avw] (.int .i64 (t.cmp b))):Fun Tryz.prog 62 [slA Tm.av l,slA Tm.av m] (.int .i64 (Tm.eD l m)):=by
 refine Fun.assume rfl λhg0=>?_;have hg:=(aJ (hg0 (slA Tm.av l) (by simp))).1
 refine Fun.of (DH (by simp) ?_) rfl rfl
 conv=>whnf
 repeat' refine gL (.map ?_)<;>conv=>whnf
 refine ax.count (fb:=true) (l.length) (λst_ j=>st_.dO [(9,.int .i64 j)]) (λj=>Tm.eD (l.drop j) (m.drop j)=Tm.eD l m) ?_ ?_ (λj hj hij=>?_) (λhij=>?_)
 .rfl
 .exact aH
 .conv=>whnf
  repeat' (first|(refine gG ?_;refine al.fn (ih _ (zE (by assumption)) _) ?_)|(refine gC ?_;first|refine .not ?_|refine gD (cI ?_)|refine ak.dec (λhc=>?_) (λhc=>?_))|refine gW (wI ?_)|(refine gI ?_;(refine gT ?_;refine iC λx hx=>?_))|refine ae.nrm ?_)<;>conv=>whnf
  .rw [ql (by assumption) (by assumption)] at hij
   refine⟨?_,?_⟩
   .rw [<-hij];simp[orI, *]
   .exact aH
  .rw [ql (by assumption) (by assumption),LW (by assumption)] at hij
   rw[hij]
 .conv=>whnf
  repeat' (first|refine gC (gD (cJ ?_))|refine ae.nrm ?_)<;>conv=>whnf
  rw[AF (zG _) (by omega) (.inl rfl),hl,CY] at hij
  rw[<-hij]
theorem FI{l m:List Tm}(ih:∀t∈l,∀b:Tm,Fun Tryz.prog 94 [t.avw,b.avw] (.int .i64 (t.cmp b))):Fun Tryz.prog 96 [slA Tm.av l,slA Tm.av m] (.int .i64 (Tm.eD l m)):=by
 refine Fun.assume rfl λhg0=>?_;have hg:=(aJ (hg0 (slA Tm.av l) (by simp))).1
 refine Fun.of (lO (by simp) ?_) rfl rfl
 conv=>whnf
 skip;refine ax.by (fb:=true) (λst_ j=>st_.dO [(5,.int .i64 (j:Nat))]) (λj=>j<=l.length/\j<=m.length/\Tm.eD (l.drop j) (m.drop j)=Tm.eD l m) (λj=>l.length-j) 0 ⟨by omega,by omega,rfl⟩ ?_ ?_
 .exact aH
 .rintro j ⟨h1,h2,hij⟩
  conv=>whnf
  repeat' (first|refine gF (aa.fn (rC) ?_)|(refine gG ?_;refine al.fn (ih _ (zE (by assumption)) _) ?_)|(refine gC ?_;first|refine cN ?_|refine .not ?_|(refine gD ?_;first|refine cI ?_|refine cJ ?_)|refine ak.lt (λhc=>?_) (λhc=>?_)|refine ak.dec (λhc=>?_) (λhc=>?_))|refine gW (wI ?_)|refine gL (.map ?_)|(refine gI ?_;(refine gT ?_;refine iC λx hx=>?_))|refine ae.nrm ?_)<;>conv=>whnf
  .rw [ql (by assumption) (by assumption)] at hij
   refine⟨j+1,⟨⟨by omega,by omega,?_⟩,by omega⟩,?_⟩
   .rw [<-hij];simp[orI, *]
   .exact aH
  .rw [ql (by assumption) (by assumption),LW (by assumption)] at hij
   rw[hij]
  .rw [AF h1 h2 (by omega)] at hij
   rw[hij]
  .rw [AF h1 h2 (by omega)] at hij
   rw[hij]
theorem Bc(a:Tm):∀b:Tm,Fun Tryz.prog 89 [a.avw,b.avw] (.int .i64 (a.cmp b)):=by
 induction a using Tm.bK with
 |h k n s l ih=>
 intro b;generalize ha:Tm.mk k n s l=a;have ih:∀t∈a.args,∀b:Tm,Fun Tryz.prog 89 [t.avw,b.avw] (.int .i64 (t.cmp b)):=by subst ha;exact ih
 clear ha;rw[Tm.cmp_eq];refine Fun.of (vU (by simp) ?_) rfl rfl
 conv=>whnf
 repeat' (first|(refine gF ?_;first|refine aa.fn (IQ) ?_|refine aa.fn (Js) ?_|refine aa.fn (Jr) ?_|refine aa.fn (I7 (by have:=jb.1 (show gq (a.args.length:Int) b.args.length=0 by assumption);omega) ih) ?_)|(refine gG ?_;first|refine al.fn (IQ) ?_|refine al.fn (Js) ?_|refine al.fn (Jr) ?_|refine al.fn (Ps) ?_)|(refine gC ?_;first|refine .not ?_|refine gD (cI ?_)|refine ak.dec (λhc=>?_) (λhc=>?_))|refine gL (.map ?_)|refine ae.nrm ?_)<;>conv=>whnf
 all_goals (clear ih;simp_all[orI])
theorem Bl(a:Tm):∀b:Tm,Fun Tryz.prog 94 [a.avw,b.avw] (.int .i64 (a.cmp b)):=by
 induction a using Tm.bK with
 |h k n s l ih=>
 intro b;generalize ha:Tm.mk k n s l=a;have ih:∀t∈a.args,∀b:Tm,Fun Tryz.prog 94 [t.avw,b.avw] (.int .i64 (t.cmp b)):=by subst ha;exact ih
 clear ha;rw[Tm.cmp_eq];refine Fun.of (j5 (by simp) ?_) rfl rfl
 conv=>whnf
 repeat' (first|(refine gF ?_;first|refine aa.fn (Gj) ?_|refine aa.fn (rC) ?_|refine aa.fn (E5) ?_|refine aa.fn (FI ih) ?_)|(refine gG ?_;first|refine al.fn (Gj) ?_|refine al.fn (rC) ?_)|(refine gC ?_;first|refine .not ?_|(refine gD ?_;first|refine cI ?_|refine cJ ?_)|refine ak.dec (λhc=>?_) (λhc=>?_))|refine gL (.map ?_)|refine ae.nrm ?_)<;>conv=>whnf
 all_goals (clear ih;simp_all[orI])
theorem N4{l m:List Tm}(hl:l.length=m.length):Fun Tryz.prog 62 [slA Tm.av l,slA Tm.av m] (.int .i64 (Tm.eD l m)):=I7 hl λt _ b=>Bc t b
theorem Mk{l m:List Tm}:Fun Tryz.prog 96 [slA Tm.av l,slA Tm.av m] (.int .i64 (Tm.eD l m)):=FI λt _ b=>Bl t b
theorem La(a:Tm):∀left deep:Int,-2305843009213693952<=left->left<=4294967296->0<=deep->deep<=64->Fun Tryz.prog 28 [slA Tm.av a.args,.int .i64 left,.int .i64 deep] (.int .i64 (bH a.args left deep)):=by
 induction a using Tm.bK with
 |h k n s l ih=>
 intro left deep b1 b2 b3 b4;rw[show (Tm.mk k n s l).args=l from rfl];refine Fun.assume rfl λhg0=>?_;have hgs:=aJ (hg0 (slA Tm.av l) (by simp))
 have hg:=hgs.1;refine Fun.of (lM (by simp) ?_) rfl rfl
 conv=>whnf
 repeat' (first|(refine gC ?_;first|refine cY ?_|(refine gD ?_;first|refine cI ?_|refine cJ ?_)|refine ak.lt (λhc=>?_) (λhc=>?_)|refine ak.dec (λhc=>?_) (λhc=>?_))|refine gL (.map ?_)|refine ae.nrm ?_)<;>conv=>whnf
 .rw [bH,if_pos (.inl (by assumption))]
 .rw [bH,if_pos (.inr (by assumption))]
 .have e0:bH l left deep=Tm.jj l left deep:=by rw[bH,if_neg (by omega)]
  rw[e0];refine ax.by (fb:=true) (λs (q:Nat×Int)=>s.dO [(1,.int .i64 q.2),(7,.int .i64 q.1)]) (λq=>q.1<=l.length/\(-1<=q.2/\q.2<=4294967296)/\Tm.jj (l.drop q.1) q.2 deep=Tm.jj l left deep) (λq=>l.length-q.1) (0,left) ⟨zJ _,by simp only;omega,rfl⟩ ?_ ?_
  .exact aH
  .rintro ⟨j,r⟩ ⟨hj,hr,he⟩;dsimp only at hj hr he|-
   by_cases hlt:j<l.length
   .obtain ⟨x,hx⟩:∃x,l[j]? =some x:=⟨_,zA hlt⟩;have hxs:=(qi (Aa (hgs.2 x (zE hx)))).1
    by_cases hr0:0<=r
    .rw [JH hx hr0] at he;have hw:=O0 x r deep hr.1;rw[Tm.GX] at hw he;have h8:=jS x.name.size
     conv=>whnf
     repeat' (first|(refine gG ?_;refine al.fn (ih _ (zE (by assumption)) _ _ (by omega) (by omega) (by omega) (by omega)) ?_)|refine gC (gD (cI ?_))|refine gW (wI ?_)|refine gL (.map ?_)|refine gN (nS ?_)|refine gI (gT (iA ?_)))<;>conv=>whnf
     refine⟨(j+1,bH x.args (r-1-(x.name.size:Int).tdiv 8) (deep-1)),⟨⟨hlt,?_,he⟩,by simp only;omega⟩,?_⟩
     .simp only;omega
     .exact aH
    .rw [wL _ (by omega)] at he
     conv=>whnf
     repeat' (first|(refine gC ?_;(refine gD ?_;first|refine cI ?_|refine cJ ?_))|refine gL (.map ?_)|refine ae.nrm ?_)<;>conv=>whnf
     rw[he]
   .have hje:j=l.length:=by omega
    subst hje;rw[zj,Tm.jj] at he
    conv=>whnf
    repeat' (first|(refine gC ?_;first|refine cN ?_|refine gD (cJ ?_))|refine gL (.map ?_)|refine ae.nrm ?_)<;>conv=>whnf
    rw[he]
theorem wM{l:List Tm}{left deep:Int}(h1:-2305843009213693952<=left)(h2:left<=4294967296)(h3:0<=deep)(h4:deep<=64):Fun Tryz.prog 28 [slA Tm.av l,.int .i64 left,.int .i64 deep] (.int .i64 (bH l left deep)):=La (.mk 0 0 .empty l) left deep h1 h2 h3 h4
end Go.CK
namespace Go.CK
open Go.AM Go.Proofs
def wS{α:Type}(a b:List α)(j:Nat):Prop:=∀i,i<j->a[i]? =b[i]?
theorem wS.zero{α:Type}{a b:List α}:wS a b 0:=λi h=>by omega
theorem wS.succ{α:Type}{a b:List α}{j:Nat}{x y:α}(h:wS a b j)(hx:a[j]? =some x)(hy:b[j]? =some y)(e:x=y):wS a b (j+1):=λi hi=>by
 by_cases hij:i=j
 .subst hij;rw[hx,hy,e]
 .exact h i (by omega)
theorem wS.all{α:Type}{a b:List α}(h:wS a b a.length)(hl:a.length=b.length):a=b:=Zu λi=>by
 rcases zt i a.length with h1|h1
 .exact h i h1
 .rw [zR h1,zR (by omega)]
theorem OP{α:Type}{a b:List α}{j:Nat}{x y:α}(hx:a[j]? =some x)(hy:b[j]? =some y)(e:¬x=y):¬a=b:=λh=>by subst h;rw[hx] at hy;exact e (yT hy)
theorem L9{α:Type}{a b:List α}(h:¬(a.length:Int)=b.length):¬a=b:=λe=>h (by rw[e])
theorem oT{a b:List Int}:Fun Tryz.prog 15 [slA bM a,slA bM b] (.bool (decide (a=b))):=by
 refine Fun.assume rfl λhg0=>?_;refine Fun.of (jv (by simp) ?_) rfl rfl
 conv=>whnf
 have hg:=(aJ (hg0 (slA bM a) (by simp))).1
 conv=>whnf
 repeat' (first|(refine gC ?_;first|refine .not ?_|refine ak.dec (λhc=>?_) (λhc=>?_))|refine gL (.map ?_)|refine ae.nrm ?_)<;>conv=>whnf
 .refine ax.count (fb:=true) (a.length) (λst_ j=>st_.dO [(5,.int .i64 j)]) (λj=>wS a b j) ?_ ?_ (λj hj hij=>?_) (λhij=>?_)
  .exact wS.zero
  .exact aH
  .conv=>whnf
   repeat' (first|(refine gC ?_;first|refine .not ?_|refine gD (cI ?_)|refine ak.dec (λhc=>?_) (λhc=>?_))|refine gW (wI ?_)|refine gL (.map ?_)|(refine gI ?_;(refine gM ?_;refine iH λx hx=>?_))|refine ae.nrm ?_)<;>conv=>whnf
   .refine ⟨hij.succ (by assumption) (by assumption) (by assumption),?_⟩
    exact aH
   .exact wH (OP (by assumption) (by assumption) (by assumption))
  .conv=>whnf
   repeat' (first|(refine gC ?_;first|refine cN ?_|refine gD (cJ ?_))|refine gL (.map ?_)|refine ae.nrm ?_)<;>conv=>whnf
   exact Gu (hij.all (by omega))
 .exact wH (L9 (by assumption))
def isI(n:Int)(x:Int):Bool:=decide (n=x)
theorem Ow(l:List Int)(n:Int):l.any (isI n)=decide (n∈l):=by
 rw[Bool.eq_iff_iff];simp[isI]
theorem FR{l:List Int}{n:Int}:Fun Tryz.prog 123 [slA bM l,.int .i64 n] (.bool (decide (n∈l))):=by
 rw[<-Ow];refine Fun.assume rfl λhg0=>?_;have hg:=(aJ (hg0 (slA bM l) (by simp))).1
 refine Fun.of (nH (by simp) ?_) rfl rfl
 conv=>whnf
 skip;refine ax.count (fb:=true) (l.length) (λst_ j=>st_.dO [(5,.int .i64 j)]) (λj=>∀i x,i<j->l[i]? =some x->isI n x=false) ?_ ?_ (λj hj hij=>?_) (λhij=>?_)
 .exact DP
 .exact aH
 .conv=>whnf
  repeat' (first|(refine gC ?_;first|refine gD (cI ?_)|refine ak.dec (λhc=>?_) (λhc=>?_))|refine gW (wI ?_)|refine gL (.map ?_)|(refine gI ?_;(refine gM ?_;refine iH λx hx=>?_))|refine ae.nrm ?_)<;>conv=>whnf
  .rw [M4 (by assumption) (by simp[isI, *])]
  .refine ⟨DQ hij (by assumption) (by simp[isI];omega),?_⟩
   exact aH
 .conv=>whnf
  repeat' (first|refine gC (gD (cJ ?_))|refine gL (.map ?_)|refine ae.nrm ?_)<;>conv=>whnf
  rw[M0 hij]
theorem Dm{l m:List Tm}:Fun Tryz.prog 69 [slA Tm.av l,slA Tm.av m] (.bool (decide (Tm.eD l m=0))):=by
 refine Fun.of (iZ (by simp) ?_) rfl rfl
 conv=>whnf
 repeat' (first|refine gF (aa.fn (Mk) ?_)|refine ae.nrm ?_)<;>conv=>whnf
def Gl.same(a b:Gl):Bool:=decide (a.op=b.op)&&(decide (a.name=b.name)&&(decide (a.args.length=b.args.length)&&decide (Tm.eD a.args b.args=0)))
theorem Gl.tQ(a:Gl):a.same a=true:=by simp[Gl.same,Tm.CX]
theorem bu{a b:Gl}:Fun Tryz.prog 35 [a.av,b.av] (.bool (a.same b)):=by
 refine Fun.of (jw (by simp) ?_) rfl rfl
 conv=>whnf
 repeat' (first|refine gF (aa.fn (Dm) ?_)|(refine gC ?_;first|refine cN ?_|(refine gD ?_;first|refine cI ?_|refine cJ ?_)|refine ak.dec (λhc=>?_) (λhc=>?_))|refine gL (.map ?_)|refine ae.nrm ?_)<;>conv=>whnf
 all_goals simp[Gl.same, *]
 all_goals omega
end Go.CK
namespace Go.CK
open Go.AM Go.Proofs
end Go.CK
namespace Go.CK
open Go.AM Go.Proofs
mutual
def Tm.vs:Tm->List Int
 |.mk k n _ l=>if k=1 then [n] else if k=2 then Tm.vss l else []
def Tm.vss:List Tm->List Int
 |[]=>[]
 |t::r=>t.vs++Tm.vss r
end
def Tm.use(t:Tm):List Tm:=if t.kind=2 then t.args else []
theorem Tm.O1{t:Tm}(h:t.kind=1):t.vs=[t.num]:=by
 obtain⟨k,n,s,l⟩:=t;simp only[Tm.kind] at h;rw[Tm.vs,if_pos h];rfl
theorem Tm.Lc{t:Tm}(h:¬t.kind=1):t.vs=Tm.vss t.use:=by
 obtain⟨k,n,s,l⟩:=t;simp only[Tm.kind] at h;rw[Tm.vs,if_neg h];unfold Tm.use;show _=Tm.vss (if k=2 then l else [])
 by_cases h2:k=2
 .rw [if_pos h2,if_pos h2]
 .rw [if_neg h2,if_neg h2,Tm.vss]
theorem Tm.se:∀l m:List Tm,Tm.vss (l++m)=Tm.vss l++Tm.vss m
 |[],m=>rfl
 |t::l,m=>by rw[ze,Tm.vss,Tm.vss,Tm.se l m,zg]
theorem Tm.l9{l:List Tm}{j:Nat}{x:Tm}(h:l[j]? =some x):Tm.vss (l.take (j+1))=Tm.vss (l.take j)++x.vs:=by
 obtain⟨hj,rfl⟩:=zB.1 h;rw[List.take_succ_eq_append_getElem hj,Tm.se];simp[Tm.vss]
theorem Tm.jG{l:List Tm}{j:Nat}{x:Tm}(h:l[j]? =some x):Tm.vss l=Tm.vss (l.take j)++(x.vs++Tm.vss (l.drop (j+1))):=by
 rw[<-zg,<-Tm.l9 h,<-Tm.se,List.take_append_drop]
def ys1(l:List Int):List (List AV):=l.map λn=>[bM n]
theorem sc(l m:List Int):ys1 (l++m)=ys1 l++ys1 m:=by simp[ys1]
theorem DS{a:Tm}{x:Tm}(h:x∈a.use):x∈a.args:=by
 unfold Tm.use at h;split at h
 .exact h
 .cases h
theorem Ov{a:Tm}:Fun Tryz.prog 130 [a.avw] (slA Tm.av a.use):=by
 refine Fun.of (DJ (by simp) ?_) rfl rfl
 conv=>whnf
 repeat' (first|(refine gC ?_;refine ak.dec (λhc=>?_) (λhc=>?_))|refine ae.nrm ?_)<;>conv=>whnf
 all_goals simp[Tm.use, *]
theorem eV{a:Tm}:Fun Tryz.prog 100 [a.avw] (slA Tm.av a.use):=by
 refine Fun.of (mG (by simp) ?_) rfl rfl
 conv=>whnf
 repeat' (first|(refine gC ?_;refine ak.dec (λhc=>?_) (λhc=>?_))|refine ae.nrm ?_)<;>conv=>whnf
 all_goals simp[Tm.use, *]
structure YC(P:Program)(b n0:Nat)(xs:List (List AV))(J:List (List AV)->List Box->Prop)(Jx:List Box->Prop):Prop where
 hb:b<n0
 hJ:∀pre bs',J pre bs'->bs'.length=n0/\ai n0 bs'=true
 hJx:∀bs',Jx bs'->bs'.length=n0/\ai n0 bs'=true
 hr:∀pre y rest bs' cs,pre++y::rest=xs->J pre bs'->pX P b y (bs'++cs) λr bs2=>∃own,bs2=own++cs/\((r=.bool true/\J (pre++[y]) own)\/(r=.bool false/\Jx own))
theorem bl2{n0:Nat}{own cs:List Box}(h:own.length=n0/\ai n0 own=true)(hcs:ai (n0+cs.length) cs=true):ai (own++cs).length (own++cs)=true:=by
 rw[zC,h.1];exact bd (bt (yJ _ _) h.2) hcs
theorem Nt(a:Tm):∀{b n0:Nat} {xs:List (List AV)} {J:List (List AV)->List Box->Prop} {Jx:List Box->Prop} (hC:YC Tryz.prog b n0 xs J Jx) (pre rest:List (List AV)) (bs cs:List Box),pre++(ys1 a.vs++rest)=xs->J pre bs->ai (n0+cs.length) cs=true->
  AM.Sem Tryz.prog 108 [a.avw,.yl b] (bs++cs) λr bs'=>∃own,bs'=own++cs/\((r=.bool true/\J (pre++ys1 a.vs) own)\/(r=.bool false/\Jx own)):=by
 induction a using Tm.bK with
 |h k n s l ih=>
 intro b n0 xs J Jx hC pre rest bs cs hx hj hcs;generalize ha:Tm.mk k n s l=a at hx|-
 have ih:∀t∈a.args,∀{b n0:Nat} {xs:List (List AV)} {J:List (List AV)->List Box->Prop} {Jx:List Box->Prop} (hC:YC Tryz.prog b n0 xs J Jx) (pre rest:List (List AV)) (bs cs:List Box),pre++(ys1 t.vs++rest)=xs->J pre bs->ai (n0+cs.length) cs=true->
  AM.Sem Tryz.prog 108 [t.avw,.yl b] (bs++cs) λr bs'=>∃own,bs'=own++cs/\((r=.bool true/\J (pre++ys1 t.vs) own)\/(r=.bool false/\Jx own)):=by subst ha;exact ih
 clear ha;have hbl:=hC.hJ _ _ hj;refine Sem.assume λhg0 _=>?_;have hg:=(qi (hg0 a.avw (by simp) rfl)).2.1
 have hgu:a.use.length<=140737488355328:=by unfold Tm.use;split<;>simp[hg]
 refine BF (by simp) ?_
 conv=>whnf
 repeat' (first|refine gF (aa.fn (Ov) ?_)|(refine gC ?_;refine ak.dec (λhc=>?_) (λhc=>?_))|refine gL (.map ?_)|refine gB (.last ?_))<;>conv=>whnf
 .rw [Tm.O1 hc] at hx|-;have hY:=hC.hr pre [bM a.num] rest bs (cs++[.cells [.int .i64 a.kind,.int .i64 a.num,.str a.name,.sl .no (a.args.map Tm.av)]]) hx hj;rw[<-zg] at hY;refine Et.of hY ?_;rintro r bs' ⟨own,rfl,h⟩
  have ho:own.length=n0/\ai n0 own=true:=by
   rcases h with ⟨_,h⟩|⟨_,h⟩
   .exact hC.hJ _ _ h
   .exact hC.hJx _ h
  rcases h with ⟨rfl,h⟩|⟨rfl,h⟩
  .conv=>whnf
   skip;refine ae.wg (own:=own++cs) (zg _ _ _).symm (show (bs++cs).length<=(own++cs).length by simp;omega) rfl (bl2 ho hcs) ?_
   exact ae.slot ⟨own,rfl,.inl ⟨rfl,h⟩⟩
  .conv=>whnf
   skip;refine ae.wg (own:=own++cs) (zg _ _ _).symm (show (bs++cs).length<=(own++cs).length by simp;omega) rfl (bl2 ho hcs) ?_
   exact ae.slot ⟨own,rfl,.inr ⟨rfl,h⟩⟩
 .rw [Tm.Lc hc] at hx|-;refine ax.by (fb:=false) (λ_ (q:Nat×List Box)=>⟨[(1,.yl b),(15,slA Tm.av a.use),(16,.int .i64 a.use.length),(17,.int .i64 q.1)],q.2++cs,(bs++cs).length⟩) (λq=>q.1<=a.use.length/\J (pre++ys1 (Tm.vss (a.use.take q.1))) q.2) (λq=>a.use.length-q.1) (0,bs) ⟨zJ _,by simpa[Tm.vss,ys1] using hj⟩ ?_ ?_
  .refine ah.wg (own:=bs++cs) rfl (zG _) ?_ (bl2 hbl hcs) ?_
   .simp [mQ,AV.lt,AV.lt1,AV.lt0,AV.bc];have:=hC.hb;omega
   .refine ah.atS ?_ rfl rfl
    conv=>whnf
    repeat' (first|(refine gV ?_;first|refine vE ?_|refine vI ?_)|exact True.intro)<;>conv=>whnf
  .rintro ⟨j,own⟩ ⟨hj1,hj2⟩;dsimp only at hj1 hj2|-;have ho:=hC.hJ _ _ hj2
   by_cases hlt:j<a.use.length
   .obtain ⟨x,hxj⟩:∃x,a.use[j]? =some x:=⟨_,zA hlt⟩
    conv=>whnf
    repeat' (first|refine gC (gD (cI ?_))|refine gI (gT (iA ?_))|refine gB (.last ?_)|refine JF.last ?_)<;>conv=>whnf
    have hsp:=Tm.jG hxj;have htk:=Tm.l9 hxj;have hC2:=ih x (DS (zE hxj)) hC (pre++ys1 (Tm.vss (a.use.take j))) (ys1 (Tm.vss (a.use.drop (j+1)))++rest) own (cs++[.cells [.int .i64 x.kind,.int .i64 x.num,.str x.name,.sl .no (x.args.map Tm.av)]]) (by rw[<-hx,hsp];simp[sc]) hj2 (bd (bt (by simp) hcs) rfl)
    rw[<-zg] at hC2;refine aa.raw hC2 ?_;rintro r bs' ⟨own2,rfl,⟨rfl,h⟩|⟨rfl,h⟩⟩
    .have ho2:=hC.hJ _ _ h
     conv=>whnf
     repeat' (first|(refine gC ?_;first|refine cY ?_|refine .not ?_)|refine gW (wI ?_))<;>conv=>whnf
     refine⟨(j+1,own2),⟨⟨hlt,?_⟩,by simp only;omega⟩,ah.wg (own:=own2++cs) (zg _ _ _).symm (show (bs++cs).length<=(own2++cs).length by simp;omega) ?_ (bl2 ho2 hcs) ?_⟩
     .dsimp only;rw[htk,sc,<-zg];exact h
     .simp [mQ,AV.lt,AV.lt1,AV.lt0,AV.bc];have:=hC.hb;omega
     .refine ah.atS ?_ rfl rfl
      conv=>whnf
      repeat' (first|(refine gV ?_;first|refine vE ?_|refine vI ?_)|exact True.intro)<;>conv=>whnf
    .have ho2:=hC.hJx _ h
     conv=>whnf
     repeat' (refine gC ?_;first|refine cN ?_|refine .not ?_)<;>conv=>whnf
     refine ae.wg (own:=own2++cs) (zg _ _ _).symm (show (bs++cs).length<=(own2++cs).length by simp;omega) rfl (bl2 ho2 hcs) ?_
     exact ae.slot ⟨own2,rfl,.inr ⟨rfl,h⟩⟩
   .obtain rfl:j=a.use.length:=by omega
    rw[zz] at hj2
    conv=>whnf
    repeat' refine gC (gD (cJ ?_))<;>conv=>whnf
    exact ae.slot ⟨own,rfl,.inl ⟨rfl,hj2⟩⟩
theorem D6{l:List Tm}:Fun Tryz.prog 88 [slA Tm.av l] (.fn (.func 107) [] [.ept [slA Tm.av l]]):=by
 refine Fun.of (DI (by simp) ?_) rfl rfl
 conv=>whnf
 skip;refine ae.of (OC.freeze 0 rfl rfl rfl rfl ?_)
 conv=>whnf
 rfl
theorem CT(l:List Tm):Bb Tryz.prog 107 [.ept [slA Tm.av l]] (ys1 (Tm.vss l)):=by
 intro b bs J Jx hb hJ hJx hr h0;have hC:YC Tryz.prog b bs.length (ys1 (Tm.vss l)) J Jx:=⟨hb,hJ,hJx,hr⟩;refine Sem.assume λ_ hg0=>?_;have hg:=(aJ (hg0 [slA Tm.av l] (by simp) (slA Tm.av l) (by simp))).1
 refine vW (by simp) ?_
 conv=>whnf
 repeat' refine gL (.map ?_)<;>conv=>whnf
 refine ax.by (fb:=false) (λ_ (q:Nat×List Box)=>⟨[(0,.yl b),(1,.ept [slA Tm.av l]),(5,.int .i64 l.length),(6,.int .i64 q.1)],q.2,bs.length⟩) (λq=>q.1<=l.length/\J (ys1 (Tm.vss (l.take q.1))) q.2) (λq=>l.length-q.1) (0,bs) ⟨zJ _,by simpa[Tm.vss,ys1] using h0⟩ (ah.eqS rfl rfl rfl) ?_
 rintro⟨j,own⟩ ⟨hj1,hj2⟩;dsimp only at hj1 hj2|-;have ho:=hC.hJ _ _ hj2
 by_cases hlt:j<l.length
 .obtain ⟨x,hxj⟩:∃x,l[j]? =some x:=⟨_,zA hlt⟩
  conv=>whnf
  repeat' (first|refine gC (gD (cI ?_))|refine gI (gT (iA ?_)))<;>conv=>whnf
  have hsp:=Tm.jG hxj;have htk:=Tm.l9 hxj;have hC2:=Nt x hC (ys1 (Tm.vss (l.take j))) (ys1 (Tm.vss (l.drop (j+1)))) own [] (by rw[hsp,sc,sc]) hj2 rfl
  rw[zy] at hC2;refine aa.raw hC2 ?_;rintro r bs' ⟨own2,rfl,⟨rfl,h⟩|⟨rfl,h⟩⟩
  .have ho2:=hC.hJ _ _ h
   conv=>whnf
   repeat' (first|(refine gC ?_;first|refine cY ?_|refine .not ?_)|refine gW (wI ?_))<;>conv=>whnf
   refine⟨(j+1,own2),⟨⟨hlt,?_⟩,by simp only;omega⟩,?_⟩
   .dsimp only;rw[htk,sc];exact h
   .refine ah.atS ?_ (zy _) rfl
    conv=>whnf
    repeat' (first|(refine gV ?_;first|refine vE ?_|refine vI ?_)|exact True.intro)<;>conv=>whnf
  .conv=>whnf
   repeat' (first|(refine gC ?_;first|refine cN ?_|refine .not ?_)|refine ae.nrm ?_)<;>conv=>whnf
   refine Or.inr ?_;rw[zy];exact h
 .obtain rfl:j=l.length:=by omega
  rw[zz] at hj2
  conv=>whnf
  repeat' (first|refine gC (gD (cJ ?_))|refine ae.nrm ?_)<;>conv=>whnf
  exact Or.inl hj2
def qz(l:List Int)(n:Int):List Int:=if n∈l then l else l++[n]
def bp(l m:List Int):List Int:=m.foldl qz l
theorem jQ(l m k:List Int):bp l (m++k)=bp (bp l m) k:=by simp[bp]
theorem Ir(l m:List Int)(n:Int):bp l (m++[n])=qz (bp l m) n:=by simp[bp]
theorem Nf{l:List Int}{n x:Int}:x∈qz l n↔x∈l\/x=n:=by
 unfold qz;split
 .exact ⟨.inl,λh=>h.elim id λe=>by subst e;assumption⟩
 .simp
theorem qm:∀{m l:List Int} {x:Int},x∈bp l m↔x∈l\/x∈m
 |[],l,x=>by simp[bp]
 |n::m,l,x=>by
  show x∈bp (qz l n) m↔_;rw[qm,Nf,zI,or_assoc]
theorem Ng(l:List Int)(n:Int):(qz l n).length<=l.length+1:=by
 unfold qz;split<;>simp
theorem ew:∀(m l:List Int),(bp l m).length<=l.length+m.length
 |[],l=>by simp[bp]
 |n::m,l=>by
  have h1:=ew m (qz l n);have h2:=Ng l n;show (bp (qz l n) m).length<=_;simp only[zX];omega
theorem JA{l:List Int}{n:Int}(h:n∈l):qz l n=l:=if_pos h
theorem GM{l:List Int}{n:Int}(h:¬n∈l):qz l n=l++[n]:=if_neg h
def a8(l:List Int):List Int:=bp [] l
theorem IX{l:List Tm}(hl:(Tm.vss l).length<=100000):Fun Tryz.prog 97 [.fn (.func 107) [] [.ept [slA Tm.av l]]] (slA bM (a8 (Tm.vss l))):=by
 refine Fun.of (DG (by simp) ?_) rfl rfl
 conv=>whnf
 skip
 refine kC.each (λn:Int=>[bM n]) (Tm.vss l) ⟨[(2,.sl .full []),(3,.ptr 0 0),(4,.ptr 2 0),(7,.fn (.func 107) [] [.ept [slA Tm.av l]])],[.cells [.sl (.own 1) []],.mp [],.cells [.mpt 1]],0⟩
  (λpre=>[.cells [.sl (.own 1) ((a8 pre).map bM)],.mp (jA (.bool true) (a8 pre)),.cells [.mpt 1]]) (CT l) (by kernel_rfl) ?_ rfl (λ_=>rfl) (λ_=>rfl) rfl (λ_=>⟨rfl,rfl⟩) ?_ ?_
 .refine ah.MU 0 0 1 rfl (by simp) ?_
  exact ah.eqS rfl rfl rfl
 .intro x pre y rest hxs
  have hpl:(a8 pre).length+1<=100000:=by
   have:=congrArg List.length hxs;have h2:=ew pre [];simp at this;unfold a8;simp at h2;omega
  have hfs:a8 (pre++[y])=qz (a8 pre) y:=Ir [] pre y
  conv=>whnf
  repeat' (first|(refine gC ?_;first|refine cY ?_|refine cN ?_|refine .not ?_)|refine gN (nS ?_)|refine gA (aP ?_)|refine gMp (mA ?_)|(refine gMs ?_;refine mS (λhc=>?_) (λhc=>?_)))<;>conv=>whnf
  .rw [JA hc] at hfs;refine r9.by ?_ rfl rfl rfl
   conv=>whnf
   repeat' (first|refine xB ?_|(refine BxN.mk ?_ ?_;(focus (simp[hfs];done)))|exact True.intro)<;>conv=>whnf
  .rw [GM hc] at hfs;refine r9.by ?_ rfl rfl rfl
   conv=>whnf
   repeat' (first|refine xB ?_|(refine BxN.mk ?_ ?_;(focus (simp[hfs,Fw,St.ev];done)))|exact True.intro)<;>conv=>whnf
 .conv=>whnf
  repeat' refine ae.nrm ?_<;>conv=>whnf
end Go.CK
namespace Go.CK
open Go.AM Go.Proofs
theorem Gz{x:At}(hl:(Tm.vss x.args).length<=100000):Fun Tryz.prog 71 [x.av] (slA bM (a8 (Tm.vss x.args))):=by
 refine Fun.of (um (by simp) ?_) rfl rfl
 conv=>whnf
 repeat' (first|(refine gF ?_;first|refine aa.fn (D6) ?_|refine aa.fn (IX hl) ?_)|refine ae.nrm ?_)<;>conv=>whnf
theorem MO{t:Tm}:Fun Tryz.prog 88 [.sl .no [t.avw]] (.fn (.func 107) [] [.ept [.sl .no [t.avw]]]):=by
 have:=D6 (l:=[t]);simp only[slA,zP,Zf,Tm.gz] at this;exact this
theorem IL{k n:Nat}{l:List Int}:ai n [aZ (AV.int .i64) 1 k l]=true:=by
 simp only[aZ,ai,Bool.and_true,zS];exact λx hx=>(ui.OM l _ n x hx).2
theorem ah.refl(s:St):ah s s:=⟨aF.refl s⟩
def OA(own:List Box)(l:List Int)(r:AV)(bs':List Box):Prop:=∃(J:List Box) (k':Nat),l.length<=k'/\ai (own.length+J.length) J=true/\r=.bsl (own.length+J.length) l.length k'/\bs'=own++(J++[aZ (AV.int .i64) 1 k' l])
theorem EU(a:Tm):∀(own:List Box) (l:List Int) (k:Nat),ai own.length own=true->l.length<=k->l.length+a.vs.length<=1000000->
  AM.Sem Tryz.prog 98 [.bsl own.length l.length k,a.avw] (own++[aZ (AV.int .i64) 1 k l]) (OA own (bp l a.vs)):=by
 induction a using Tm.bK with
 |h k n s l ih=>
 intro own l0 k0 ho hk0 hb;generalize ha:Tm.mk k n s l=a at hb|-
 have ih:∀t∈a.args,∀(own:List Box) (l:List Int) (k:Nat),ai own.length own=true->l.length<=k->l.length+t.vs.length<=1000000->
  AM.Sem Tryz.prog 98 [.bsl own.length l.length k,t.avw] (own++[aZ (AV.int .i64) 1 k l]) (OA own (bp l t.vs)):=by subst ha;exact ih
 clear ha;refine Sem.assume λhg0 _=>?_;have hg:=(qi (hg0 a.avw (by simp) rfl)).2.1
 have hgu:a.use.length<=140737488355328:=by unfold Tm.use;split<;>simp[hg]
 refine eJ (by simp) ?_
 conv=>whnf
 repeat' (first|refine gF (aa.fn (eV) ?_)|(refine gC ?_;first|refine cN ?_|(refine gD ?_;first|refine cI ?_|refine cJ ?_)|refine ak.dec (λhc=>?_) (λhc=>?_))|refine gB (.last ?_))<;>conv=>whnf
 .have hv:=Tm.O1 hc;have hu:a.use.length=0:=by unfold Tm.use;rw[if_neg (by omega)];rfl
  refine aa.view (FR (l:=l0) (n:=a.num)) rfl ?_ ?_
  .refine .cons (.row (l:=l0) ui ?_ rfl) (.cons (.same rfl) .nil);simp[aZ]
  conv=>whnf
  repeat' (first|refine gF (aa.fn (eV) ?_)|(refine gC ?_;first|refine .not ?_|refine gD (cI ?_)|refine ak.dec (λhc=>?_) (λhc=>?_))|refine gB (.last ?_))<;>conv=>whnf
  .rw [hv,show bp l0 [a.num]=l0 from JA hc];refine ax.count (fb:=false) 0 (λst_ _=>st_) (λ_=>True) trivial (ah.refl _) (λj hj=>by omega) (λ_=>?_)
   conv=>whnf
   repeat' (first|refine gC (gD (cJ ?_))|refine gL (.map ?_))<;>conv=>whnf
   refine ae.wg (own:=own++[aZ (AV.int .i64) 1 k0 l0]) rfl (zG _) ?_ ?_ ?_
   .simp [mQ,AV.lt,AV.lt1,AV.lt0,AV.bc]
   .exact bd (bt (by simp) ho) IL
   .exact ae.slot ⟨[],k0,hk0,rfl,rfl,rfl⟩
  .refine sb.one (l:=l0) ui (by simp[aZ]) rfl hk0 (by omega) (λk2 hk2=>?_)
   rw[Lw]
   conv=>whnf
   skip;refine wm.of (cs:=[.int .i64 a.kind,.int .i64 a.num,.str a.name,.sl .no (a.args.map Tm.av)]) (by simp[ab,Box.cs?]) ?_
   conv=>whnf
   repeat' refine gF (aa.fn (eV) ?_)<;>conv=>whnf
   rw[hv,show bp l0 [a.num]=l0++[a.num] from GM hc];refine ax.count (fb:=false) 0 (λst_ _=>st_) (λ_=>True) trivial (ah.refl _) (λj hj=>by omega) (λ_=>?_)
   conv=>whnf
   repeat' (first|refine gC (gD (cJ ?_))|refine gL (.map ?_))<;>conv=>whnf
   refine ae.slot ⟨[.dead,.cells [.int .i64 a.kind,.int .i64 a.num,.str a.name,.sl .no (a.args.map Tm.av)]],k2,hk2,rfl,?_,?_⟩
   .simp [St.get,au]
   .simp
 .refine ax.by (fb:=false) (λst_ (q:Nat×Nat×List Box)=>⟨[(0,.bsl (own.length+q.2.2.length) (bp (l0) (Tm.vss (a.use.take q.1))).length q.2.1),(5,slA Tm.av a.use),(6,.int .i64 q.1)],own++(q.2.2++[aZ (AV.int .i64) 1 q.2.1 (bp (l0) (Tm.vss (a.use.take q.1)))]),st_.lo⟩) (λq=>q.1<=a.use.length/\(bp (l0) (Tm.vss (a.use.take q.1))).length<=q.2.1/\ai (own.length+q.2.2.length) q.2.2=true) (λq=>a.use.length-q.1) (0,k0,[]) ⟨zJ _,by simp[Tm.vss,bp, *],rfl⟩ ?_ ?_
  .refine ah.wg (own:=own++[aZ (AV.int .i64) 1 k0 l0]) rfl (zG _) ?_ ?_ ?_
   .simp [mQ,AV.lt,AV.lt1,AV.lt0,AV.bc]
   .exact bd (bt (by simp) ho) IL
   .refine ah.atS ?_ rfl rfl
    conv=>whnf
    repeat' (first|(refine gV ?_;first|refine vE ?_|refine vI ?_|(refine WkN.norm ?_ ?_;(focus (simp[AV.norm,AV.ao,Tm.vss,bp];done))))|exact True.intro)<;>conv=>whnf
  .rintro ⟨j,k1,J⟩ ⟨hj1,hj2,hJ⟩;dsimp only at hj1 hj2 hJ|-
   by_cases hlt:j<a.use.length
   .obtain ⟨x,hxj⟩:∃x,a.use[j]? =some x:=⟨_,zA hlt⟩;have hsp:=Tm.jG hxj;have htk:=Tm.l9 hxj;have hle:=congrArg List.length hsp;simp only[zC] at hle;have hle2:=ew (Tm.vss (a.use.take j)) (l0);have hI:=ih x (DS (zE hxj)) (own++J) (bp (l0) (Tm.vss (a.use.take j))) k1 (by rw[zC];exact bd (bt (yJ _ _) ho) hJ) hj2 (by rw[Tm.Lc hc] at hb;omega)
    rw[zC,zg] at hI
    conv=>whnf
    repeat' (first|refine gC (gD (cI ?_))|refine gL (.map ?_)|refine gI (gT (iA ?_)))<;>conv=>whnf
    refine aa.raw hI ?_;rintro r bs' ⟨J2,k2,hk2,hJ2,rfl,rfl⟩
    conv=>whnf
    repeat' refine gW (wI ?_)<;>conv=>whnf
    refine⟨(j+1,k2,J++J2),⟨⟨hlt,?_,?_⟩,by simp only;omega⟩,?_⟩
    .dsimp only;rw[htk,jQ];exact hk2
    .dsimp only;rw[zC,<-Zp];rw[zC] at hJ2;exact bd (bt (yJ _ _) hJ) hJ2
    .dsimp only;rw[htk,jQ];refine ah.atS ?_ (by simp) rfl
     conv=>whnf
     repeat' (first|(refine gV ?_;first|refine vE ?_|refine vI ?_|(refine WkN.norm ?_ ?_;(focus (simp[AV.norm,AV.ao,Zp];done))))|exact True.intro)<;>conv=>whnf
   .obtain rfl:j=a.use.length:=by omega
    rw[zz] at hj2
    conv=>whnf
    repeat' (first|refine gC (gD (cJ ?_))|refine gL (.map ?_))<;>conv=>whnf
    rw[zz,Tm.Lc hc];exact ae.slot ⟨J,k1,hj2,hJ,rfl,rfl⟩
theorem JW(a:Tm)(own:List Box)(ho:ai own.length own=true)(hb:a.vs.length<=1000000):AM.Sem Tryz.prog 98 [.sl .full [],a.avw] own (OA own (bp [] a.vs)):=by
 have ih:∀t∈a.args,∀(own:List Box) (l:List Int) (k:Nat),ai own.length own=true->l.length<=k->l.length+t.vs.length<=1000000->
  AM.Sem Tryz.prog 98 [.bsl own.length l.length k,t.avw] (own++[aZ (AV.int .i64) 1 k l]) (OA own (bp l t.vs)):=λt _=>EU t
 have hb:([]:List Int).length+a.vs.length<=1000000:=by simpa using hb
 refine Sem.assume λhg0 _=>?_;have hg:=(qi (hg0 a.avw (by simp) rfl)).2.1
 have hgu:a.use.length<=140737488355328:=by unfold Tm.use;split<;>simp[hg]
 refine eJ (by simp) ?_
 conv=>whnf
 repeat' (first|(refine gF ?_;first|refine aa.fn (eV) ?_|refine aa.fn (FR (l:=[]) (n:=a.num)) ?_)|(refine gC ?_;first|refine cN ?_|refine .not ?_|(refine gD ?_;first|refine cI ?_|refine cJ ?_)|refine ak.dec (λhc=>?_) (λhc=>?_))|refine gB (.last ?_))<;>conv=>whnf
 .cases hc
 .have hv:=Tm.O1 (t:=a) (by assumption)
  have hu:a.use.length=0:=by unfold Tm.use;rw[if_neg (by omega)];rfl
  refine sb.L5 (l':=[a.num]) ui (by simp) (λk2 hk2=>?_)
  conv=>whnf
  repeat' (first|refine gF (aa.fn (eV) ?_)|refine gB (.last2 ?_))<;>conv=>whnf
  rw[hv,show bp [] [a.num]=[a.num] from rfl];refine ax.count (fb:=false) 0 (λst_ _=>st_) (λ_=>True) trivial (ah.refl _) (λj hj=>by omega) (λ_=>?_)
  conv=>whnf
  repeat' (first|refine gC (gD (cJ ?_))|refine gL (.map ?_))<;>conv=>whnf
  refine ae.slot ⟨[.cells [.int .i64 a.kind,.int .i64 a.num,.str a.name,.sl .no (a.args.map Tm.av)]],k2,hk2,rfl,?_,?_⟩
  .simp [St.get,au]
  .simp
 .refine ax.by (fb:=false) (λst_ (q:Nat×Nat×List Box)=>⟨[(0,.bsl (own.length+q.2.2.length) (bp ([]) (Tm.vss (a.use.take q.1))).length q.2.1),(5,slA Tm.av a.use),(6,.int .i64 q.1)],own++(q.2.2++[aZ (AV.int .i64) 1 q.2.1 (bp ([]) (Tm.vss (a.use.take q.1)))]),st_.lo⟩) (λq=>q.1<=a.use.length/\(bp ([]) (Tm.vss (a.use.take q.1))).length<=q.2.1/\ai (own.length+q.2.2.length) q.2.2=true) (λq=>a.use.length-q.1) (0,0,[]) ⟨zJ _,by simp[Tm.vss,bp, *],rfl⟩ ?_ ?_
  .refine ah.wg (own:=own) rfl (zG _) rfl ho ?_;refine ah.wT 0 rfl ?_;refine ah.atS ?_ rfl rfl
   conv=>whnf
   repeat' (first|(refine gV ?_;first|refine vE ?_|refine vI ?_|(refine WkN.norm ?_ ?_;(focus (simp[AV.norm,AV.ao,Tm.vss,bp];done))))|exact True.intro)<;>conv=>whnf
  .rintro ⟨j,k1,J⟩ ⟨hj1,hj2,hJ⟩;dsimp only at hj1 hj2 hJ|-
   by_cases hlt:j<a.use.length
   .obtain ⟨x,hxj⟩:∃x,a.use[j]? =some x:=⟨_,zA hlt⟩;have hsp:=Tm.jG hxj;have htk:=Tm.l9 hxj;have hle:=congrArg List.length hsp;simp only[zC] at hle;have hle2:=ew (Tm.vss (a.use.take j)) ([]);have hI:=ih x (DS (zE hxj)) (own++J) (bp ([]) (Tm.vss (a.use.take j))) k1 (by rw[zC];exact bd (bt (yJ _ _) ho) hJ) hj2 (by rw[Tm.Lc hc] at hb;omega)
    rw[zC,zg] at hI
    conv=>whnf
    repeat' (first|refine gC (gD (cI ?_))|refine gL (.map ?_)|refine gI (gT (iA ?_)))<;>conv=>whnf
    refine aa.raw hI ?_;rintro r bs' ⟨J2,k2,hk2,hJ2,rfl,rfl⟩
    conv=>whnf
    repeat' refine gW (wI ?_)<;>conv=>whnf
    refine⟨(j+1,k2,J++J2),⟨⟨hlt,?_,?_⟩,by simp only;omega⟩,?_⟩
    .dsimp only;rw[htk,jQ];exact hk2
    .dsimp only;rw[zC,<-Zp];rw[zC] at hJ2;exact bd (bt (yJ _ _) hJ) hJ2
    .dsimp only;rw[htk,jQ];refine ah.atS ?_ (by simp) rfl
     conv=>whnf
     repeat' (first|(refine gV ?_;first|refine vE ?_|refine vI ?_|(refine WkN.norm ?_ ?_;(focus (simp[AV.norm,AV.ao,Zp];done))))|exact True.intro)<;>conv=>whnf
   .obtain rfl:j=a.use.length:=by omega
    rw[zz] at hj2
    conv=>whnf
    repeat' (first|refine gC (gD (cJ ?_))|refine gL (.map ?_))<;>conv=>whnf
    rw[zz,Tm.Lc hc];exact ae.slot ⟨J,k1,hj2,hJ,rfl,rfl⟩
theorem BO{l:List Tm}(hb:(Tm.vss l).length<=100000):Fun Tryz.prog 74 [slA Tm.av l] (slA bM (a8 (Tm.vss l))):=by
 refine Fun.assume rfl λhg0=>?_;have hg:=(aJ (hg0 (slA Tm.av l) (by simp))).1
 refine Fun.of (j6 (by simp) ?_) rfl rfl
 conv=>whnf
 skip;refine ax.by (fb:=false) (λst_ (q:Nat×Nat×List Box)=>⟨[(0,slA Tm.av l),(3,.bsl q.2.2.length (bp [] (Tm.vss (l.take q.1))).length q.2.1),(4,.int .i64 q.1)],q.2.2++[aZ (AV.int .i64) 1 q.2.1 (bp [] (Tm.vss (l.take q.1)))],st_.lo⟩) (λq=>q.1<=l.length/\(bp [] (Tm.vss (l.take q.1))).length<=q.2.1/\ai q.2.2.length q.2.2=true) (λq=>l.length-q.1) (0,0,[]) ⟨zJ _,by simp[Tm.vss,bp],rfl⟩ ?_ ?_
 .refine ah.wT 3 rfl ?_;refine ah.atS ?_ rfl rfl
  conv=>whnf
  repeat' (first|(refine gV ?_;first|refine vE ?_|refine vI ?_|(refine WkN.norm ?_ ?_;(focus (simp[AV.norm,AV.ao,Tm.vss,bp];done))))|exact True.intro)<;>conv=>whnf
 .rintro ⟨j,k1,J⟩ ⟨hj1,hj2,hJ⟩;dsimp only at hj1 hj2 hJ|-
  by_cases hlt:j<l.length
  .obtain ⟨x,hxj⟩:∃x,l[j]? =some x:=⟨_,zA hlt⟩;have hsp:=Tm.jG hxj;have htk:=Tm.l9 hxj;have hle:=congrArg List.length hsp;simp only[zC] at hle;have hle2:=ew (Tm.vss (l.take j)) [];simp only[ZQ] at hle2
   conv=>whnf
   repeat' (first|refine gC (gD (cI ?_))|refine gL (.map ?_)|refine gI (gT (iA ?_)))<;>conv=>whnf
   refine aa.raw (EU x J (bp [] (Tm.vss (l.take j))) k1 hJ hj2 (by omega)) ?_
   rintro r bs' ⟨J2,k2,hk2,hJ2,rfl,rfl⟩
   conv=>whnf
   repeat' refine gW (wI ?_)<;>conv=>whnf
   refine⟨(j+1,k2,J++J2),⟨⟨hlt,?_,?_⟩,by simp only;omega⟩,?_⟩
   .dsimp only;rw[htk,jQ];exact hk2
   .dsimp only;rw[zC];exact bd (bt (yJ _ _) hJ) hJ2
   .dsimp only;rw[htk,jQ];refine ah.atS ?_ (by simp) rfl
    conv=>whnf
    repeat' (first|(refine gV ?_;first|refine vE ?_|refine vI ?_|(refine WkN.norm ?_ ?_;(focus (simp[AV.norm,AV.ao,];done))))|exact True.intro)<;>conv=>whnf
  .obtain rfl:j=l.length:=by omega
   rw[zz] at hj2
   conv=>whnf
   repeat' (first|refine gC (gD (cJ ?_))|refine gL (.map ?_))<;>conv=>whnf
   refine ae.froze (l:=bp [] (Tm.vss l)) ui rfl (by simp[aZ]) (by rw[zz]) ?_
   exact ae.slot rfl
theorem Hi{t:Tm}(hb:t.vs.length<=100000):Fun Tryz.prog 81 [t.avw] (slA bM (a8 t.vs)):=by
 refine Fun.of (lW (by simp) ?_) rfl rfl
 conv=>whnf
 repeat' refine gB (.last ?_)<;>conv=>whnf
 refine aa.raw (JW t _ rfl (by omega)) ?_
 rintro r bs' ⟨J,k,hk,hJ,rfl,rfl⟩
 conv=>whnf
 skip;refine ae.froze (l:=bp [] t.vs) ui rfl (by simp[aZ,Nat.add_comm 1]) rfl ?_
 exact ae.slot rfl
end Go.CK
