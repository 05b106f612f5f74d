/-
  Texts of this aZ joined (wip/gen/bundle.py),those declarations only that are needed:TrmA TrmB TrmC Vars VarsB. By an AI agent.
-/
import Derived.Test.YtpihbplamelcnaaGreatBau
set_option linter.unusedSimpArgs false
set_option linter.unusedVariables false
set_option maxRecDepth 100000
namespace Go.CK
open Go.AM Go.Proofs
theorem IF{p:Prop}[Decidable p](h:¬p):AV.bool false=AV.bool (decide p):=by rw[decide_eq_false h]
theorem LN{p:Prop}[Decidable p](h:p):AV.bool true=AV.bool (decide p):=by rw[decide_eq_true h]
theorem MM{x:Int}:Fun Tryz.prog 131 [.int .i64 x] (.bool false):=by
 refine Fun.of (tr (by simp) ?_) rfl rfl
 conv=>whnf
 repeat' refine ae.nrm ?_<;>conv=>whnf
 simp
theorem ML{x:ByteArray}:Fun Tryz.prog 132 [.str x] (.bool false):=by
 refine Fun.of (pR (by simp) ?_) rfl rfl
 conv=>whnf
 repeat' refine ae.nrm ?_<;>conv=>whnf
 simp
theorem IB{x y:Int}:Fun Tryz.prog 109 [.int .i64 x,.int .i64 y] (.int .i64 (fP x y)):=by
 refine Fun.of (qu (by simp) ?_) rfl rfl
 conv=>whnf
 repeat' (first|refine gF (aa.fn (MM) ?_)|(refine gC ?_;first|refine cN ?_|refine al.lt (λhc=>?_) (λhc=>?_))|refine ae.nrm ?_)<;>conv=>whnf
 .rw [fP,if_pos (by omega)]
 .rw [fP,if_neg (by omega),if_pos (by omega)]
 .rw [fP,if_neg (by omega),if_neg (by omega)]
theorem IA{x y:ByteArray}:Fun Tryz.prog 111 [.str x,.str y] (.int .i64 (sL x y)):=by
 refine Fun.of (nR (by simp) ?_) rfl rfl
 conv=>whnf
 repeat' (first|refine gF (aa.fn (ML) ?_)|(refine gC ?_;first|refine cN ?_|refine .not ?_|refine cNa ?_|with_reducible refine al.or ?_|refine al.dec (λhc=>?_) (λhc=>?_)|refine al.any (λhc=>?_) (λhc=>?_))|refine ae.nrm ?_)<;>conv=>whnf
 .simp [sL,gu, *]
 .simp [sL,gu, *]
 .simp [sL,gu, *]
theorem ql{x y:Int}:Fun Tryz.prog 119 [.int .i64 x,.int .i64 y] (.int .i64 (fP x y)):=by
 refine Fun.of (lS (by simp) ?_) rfl rfl
 conv=>whnf
 repeat' (first|(refine gC ?_;refine al.lt (λhc=>?_) (λhc=>?_))|refine ae.nrm ?_)<;>conv=>whnf
 .rw [fP,if_pos (by omega)]
 .rw [fP,if_neg (by omega),if_pos (by omega)]
 .rw [fP,if_neg (by omega),if_neg (by omega)]
theorem DX{x y:ByteArray}:Fun Tryz.prog 121 [.str x,.str y] (.int .i64 (sL x y)):=by
 refine Fun.of (kY (by simp) ?_) rfl rfl
 conv=>whnf
 repeat' (first|(refine gC ?_;first|refine .not ?_|refine cNa ?_|with_reducible refine al.or ?_|refine al.dec (λhc=>?_) (λhc=>?_)|refine al.any (λhc=>?_) (λhc=>?_))|refine ae.nrm ?_)<;>conv=>whnf
 .simp [sL,gu, *]
 .simp [sL,gu, *]
 .simp [sL,gu, *]
def orL:List Int->Int
 |[]=>0
 |x::l=>orI x (orL l)
theorem D6{l:List Int}{j:Nat}{x:Int}(h:l[j]? =some x):orL (l.drop j)=orI x (orL (l.drop (j+1))):=by
 obtain⟨h1,rfl⟩:=zB.1 h;rw[zH h1,orL]
theorem Og{l:List Int}:Fun Tryz.prog 112 [slA c6 l] (.int .i64 (orL l)):=by
 refine Fun.assume rfl λhg0=>?_;have hg:=(cE (hg0 (slA c6 l) (by simp))).1
 refine Fun.of (y4 (by simp) ?_) rfl rfl
 conv=>whnf
 repeat' refine gL (.map ?_)<;>conv=>whnf
 refine aD.count (fb:=true) (l.length) (λst_ j=>st_.nI [(8,.int .i64 j)]) (λj=>orL (l.drop j)=orL l) ?_ ?_ (λj hj hij=>?_) (λhij=>?_)
 .rfl
 .exact aH
 .conv=>whnf
  repeat' (first|(refine gC ?_;first|refine .not ?_|refine gD (cI ?_)|refine al.dec (λhc=>?_) (λhc=>?_))|refine gW (wI ?_)|(refine gI ?_;(refine gM ?_;refine iH λx hx=>?_))|refine ae.nrm ?_)<;>conv=>whnf
  .rw [D6 (by assumption)] at hij
   refine⟨?_,?_⟩
   .rw [<-hij];simp[orI, *]
   .exact aH
  .rw [D6 (by assumption),KR (by assumption)] at hij
   rw[hij]
 .conv=>whnf
  repeat' (first|refine gC (gD (cJ ?_))|refine ae.nrm ?_)<;>conv=>whnf
  rw[zj] at hij;rw[<-hij];rfl
theorem Oh{a b c:Int}:Fun Tryz.prog 112 [.sl .no [.int .i64 a,.int .i64 b,.int .i64 c]] (.int .i64 (orI a (orI b c))):=by
 have:=Og (l:=[a,b,c]);have e:orL [a,b,c]=orI a (orI b c):=by simp only[orL,orI];repeat' split<;>first|rfl|omega
 rwa [e] at this
theorem HJ{k:Int}:Fun Tryz.prog 110 [.int .i64 k] (.int .i64 (j6 k)):=by
 refine Fun.of (Co (by simp) ?_) rfl rfl
 conv=>whnf
 repeat' (first|(refine gC ?_;refine al.dec (λhc=>?_) (λhc=>?_))|refine ae.nrm ?_)<;>conv=>whnf
 all_goals simp[j6, *]
theorem Fh{t:Tm}:Fun Tryz.prog 120 [t.avw] (.int .i64 (j6 t.kind)):=by
 refine Fun.of (k7 (by simp) ?_) rfl rfl
 conv=>whnf
 repeat' (first|(refine gC ?_;refine al.dec (λhc=>?_) (λhc=>?_))|refine ae.nrm ?_)<;>conv=>whnf
 all_goals simp[j6, *]
theorem H6{l m:List Tm}(hl:l.length=m.length)(ih:∀t∈l,∀b:Tm,Fun Tryz.prog 89 [t.avw,b.avw] (.int .i64 (t.cmp b))):Fun Tryz.prog 62 [slA Tm.av l,slA Tm.av m] (.int .i64 (Tm.jQ l m)):=by
 refine Fun.assume rfl λhg0=>?_;have hg:=(cE (hg0 (slA Tm.av l) (by simp))).1
 refine Fun.of (Cq (by simp) ?_) rfl rfl
 conv=>whnf
 repeat' refine gL (.map ?_)<;>conv=>whnf
 refine aD.count (fb:=true) (l.length) (λst_ j=>st_.nI [(9,.int .i64 j)]) (λj=>Tm.jQ (l.drop j) (m.drop j)=Tm.jQ l m) ?_ ?_ (λj hj hij=>?_) (λhij=>?_)
 .rfl
 .exact aH
 .conv=>whnf
  repeat' (first|(refine gG ?_;refine aX.fn (ih _ (zE (by assumption)) _) ?_)|(refine gC ?_;first|refine .not ?_|refine gD (cI ?_)|refine al.dec (λhc=>?_) (λhc=>?_))|refine gW (wI ?_)|(refine gI ?_;(refine gT ?_;refine iC λx hx=>?_))|refine ae.nrm ?_)<;>conv=>whnf
  .rw [pH (by assumption) (by assumption)] at hij
   refine⟨?_,?_⟩
   .rw [<-hij];simp[orI, *]
   .exact aH
  .rw [pH (by assumption) (by assumption),KR (by assumption)] at hij
   rw[hij]
 .conv=>whnf
  repeat' (first|refine gC (gD (cJ ?_))|refine ae.nrm ?_)<;>conv=>whnf
  rw[xy (zG _) (by omega) (.inl rfl),hl,BB] at hij
  rw[<-hij]
theorem EA{l m:List Tm}(ih:∀t∈l,∀b:Tm,Fun Tryz.prog 94 [t.avw,b.avw] (.int .i64 (t.cmp b))):Fun Tryz.prog 96 [slA Tm.av l,slA Tm.av m] (.int .i64 (Tm.jQ l m)):=by
 refine Fun.assume rfl λhg0=>?_;have hg:=(cE (hg0 (slA Tm.av l) (by simp))).1
 refine Fun.of (kZ (by simp) ?_) rfl rfl
 conv=>whnf
 skip;refine aD.by (fb:=true) (λst_ j=>st_.nI [(5,.int .i64 (j:Nat))]) (λj=>j<=l.length/\j<=m.length/\Tm.jQ (l.drop j) (m.drop j)=Tm.jQ l m) (λj=>l.length-j) 0 ⟨by omega,by omega,rfl⟩ ?_ ?_
 .exact aH
 .rintro j ⟨h1,h2,hij⟩
  conv=>whnf
  repeat' (first|refine gF (aa.fn (ql) ?_)|(refine gG ?_;refine aX.fn (ih _ (zE (by assumption)) _) ?_)|(refine gC ?_;first|refine cN ?_|refine .not ?_|(refine gD ?_;first|refine cI ?_|refine cJ ?_)|refine al.lt (λhc=>?_) (λhc=>?_)|refine al.dec (λhc=>?_) (λhc=>?_))|refine gW (wI ?_)|refine gL (.map ?_)|(refine gI ?_;(refine gT ?_;refine iC λx hx=>?_))|refine ae.nrm ?_)<;>conv=>whnf
  .rw [pH (by assumption) (by assumption)] at hij
   refine⟨j+1,⟨⟨by omega,by omega,?_⟩,by omega⟩,?_⟩
   .rw [<-hij];simp[orI, *]
   .exact aH
  .rw [pH (by assumption) (by assumption),KR (by assumption)] at hij
   rw[hij]
  .rw [xy h1 h2 (by omega)] at hij
   rw[hij]
  .rw [xy h1 h2 (by omega)] at hij
   rw[hij]
theorem xY(a:Tm):∀b:Tm,Fun Tryz.prog 89 [a.avw,b.avw] (.int .i64 (a.cmp b)):=by
 induction a using Tm.bD with
 |h k n s l ih=>
 intro b;generalize ha:Tm.mk k n s l=a;have ih:∀t∈a.args,∀b:Tm,Fun Tryz.prog 89 [t.avw,b.avw] (.int .i64 (t.cmp b)):=by subst ha;exact ih
 clear ha;rw[Tm.cmp_eq];refine Fun.of (uJ (by simp) ?_) rfl rfl
 conv=>whnf
 repeat' (first|(refine gF ?_;first|refine aa.fn (HJ) ?_|refine aa.fn (IB) ?_|refine aa.fn (IA) ?_|refine aa.fn (H6 (by have:=OL.1 (show fP (a.args.length:Int) b.args.length=0 by assumption);omega) ih) ?_)|(refine gG ?_;first|refine aX.fn (HJ) ?_|refine aX.fn (IB) ?_|refine aX.fn (IA) ?_|refine aX.fn (Oh) ?_)|(refine gC ?_;first|refine .not ?_|refine gD (cI ?_)|refine al.dec (λhc=>?_) (λhc=>?_))|refine gL (.map ?_)|refine ae.nrm ?_)<;>conv=>whnf
 all_goals (clear ih;simp_all[orI])
theorem pY(a:Tm):∀b:Tm,Fun Tryz.prog 94 [a.avw,b.avw] (.int .i64 (a.cmp b)):=by
 induction a using Tm.bD with
 |h k n s l ih=>
 intro b;generalize ha:Tm.mk k n s l=a;have ih:∀t∈a.args,∀b:Tm,Fun Tryz.prog 94 [t.avw,b.avw] (.int .i64 (t.cmp b)):=by subst ha;exact ih
 clear ha;rw[Tm.cmp_eq];refine Fun.of (jC (by simp) ?_) rfl rfl
 conv=>whnf
 repeat' (first|(refine gF ?_;first|refine aa.fn (Fh) ?_|refine aa.fn (ql) ?_|refine aa.fn (DX) ?_|refine aa.fn (EA ih) ?_)|(refine gG ?_;first|refine aX.fn (Fh) ?_|refine aX.fn (ql) ?_)|(refine gC ?_;first|refine .not ?_|(refine gD ?_;first|refine cI ?_|refine cJ ?_)|refine al.dec (λhc=>?_) (λhc=>?_))|refine gL (.map ?_)|refine ae.nrm ?_)<;>conv=>whnf
 all_goals (clear ih;simp_all[orI])
theorem MU{l m:List Tm}(hl:l.length=m.length):Fun Tryz.prog 62 [slA Tm.av l,slA Tm.av m] (.int .i64 (Tm.jQ l m)):=H6 hl λt _ b=>xY t b
theorem Lb{l m:List Tm}:Fun Tryz.prog 96 [slA Tm.av l,slA Tm.av m] (.int .i64 (Tm.jQ l m)):=EA λt _ b=>pY t b
theorem J5(a:Tm):∀left deep:Int,-2305843009213693952<=left->left<=4294967296->0<=deep->deep<=64->Fun Tryz.prog 28 [slA Tm.av a.args,.int .i64 left,.int .i64 deep] (.int .i64 (bQ a.args left deep)):=by
 induction a using Tm.bD with
 |h k n s l ih=>
 intro left deep b1 b2 b3 b4;rw[show (Tm.mk k n s l).args=l from rfl];refine Fun.assume rfl λhg0=>?_;have hgs:=cE (hg0 (slA Tm.av l) (by simp))
 have hg:=hgs.1;refine Fun.of (kX (by simp) ?_) rfl rfl
 conv=>whnf
 repeat' (first|(refine gC ?_;first|refine cY ?_|(refine gD ?_;first|refine cI ?_|refine cJ ?_)|refine al.lt (λhc=>?_) (λhc=>?_)|refine al.dec (λhc=>?_) (λhc=>?_))|refine gL (.map ?_)|refine ae.nrm ?_)<;>conv=>whnf
 .rw [bQ,if_pos (.inl (by assumption))]
 .rw [bQ,if_pos (.inr (by assumption))]
 .have e0:bQ l left deep=Tm.iD l left deep:=by rw[bQ,if_neg (by omega)]
  rw[e0];refine aD.by (fb:=true) (λs (q:Nat×Int)=>s.nI [(1,.int .i64 q.2),(7,.int .i64 q.1)]) (λq=>q.1<=l.length/\(-1<=q.2/\q.2<=4294967296)/\Tm.iD (l.drop q.1) q.2 deep=Tm.iD l left deep) (λq=>l.length-q.1) (0,left) ⟨zJ _,by simp only;omega,rfl⟩ ?_ ?_
  .exact aH
  .rintro ⟨j,r⟩ ⟨hj,hr,he⟩;dsimp only at hj hr he|-
   by_cases hlt:j<l.length
   .obtain ⟨x,hx⟩:∃x,l[j]? =some x:=⟨_,zA hlt⟩;have hxs:=(pD (EO (hgs.2 x (zE hx)))).1
    by_cases hr0:0<=r
    .rw [IS hx hr0] at he;have hw:=NR x r deep hr.1;rw[Tm.FY] at hw he;have h8:=vi x.name.size
     conv=>whnf
     repeat' (first|(refine gG ?_;refine aX.fn (ih _ (zE (by assumption)) _ _ (by omega) (by omega) (by omega) (by omega)) ?_)|refine gC (gD (cI ?_))|refine gW (wI ?_)|refine gL (.map ?_)|refine gN (nS ?_)|refine gI (gT (iA ?_)))<;>conv=>whnf
     refine⟨(j+1,bQ x.args (r-1-(x.name.size:Int).tdiv 8) (deep-1)),⟨⟨hlt,?_,he⟩,by simp only;omega⟩,?_⟩
     .simp only;omega
     .exact aH
    .rw [ve _ (by omega)] at he
     conv=>whnf
     repeat' (first|(refine gC ?_;(refine gD ?_;first|refine cI ?_|refine cJ ?_))|refine gL (.map ?_)|refine ae.nrm ?_)<;>conv=>whnf
     rw[he]
   .have hje:j=l.length:=by omega
    subst hje;rw[zj,Tm.iD] at he
    conv=>whnf
    repeat' (first|(refine gC ?_;first|refine cN ?_|refine gD (cJ ?_))|refine gL (.map ?_)|refine ae.nrm ?_)<;>conv=>whnf
    rw[he]
theorem J4{l:List Tm}{left deep:Int}(h1:-2305843009213693952<=left)(h2:left<=4294967296)(h3:0<=deep)(h4:deep<=64):Fun Tryz.prog 28 [slA Tm.av l,.int .i64 left,.int .i64 deep] (.int .i64 (bQ l left deep)):=J5 (.mk 0 0 .empty l) left deep h1 h2 h3 h4
end Go.CK
namespace Go.CK
open Go.AM Go.Proofs
def BS{α:Type}(a b:List α)(j:Nat):Prop:=∀i,i<j->a[i]? =b[i]?
theorem BS.zero{α:Type}{a b:List α}:BS a b 0:=λi h=>by omega
theorem BS.succ{α:Type}{a b:List α}{j:Nat}{x y:α}(h:BS a b j)(hx:a[j]? =some x)(hy:b[j]? =some y)(e:x=y):BS a b (j+1):=λi hi=>by
 by_cases hij:i=j
 .subst hij;rw[hx,hy,e]
 .exact h i (by omega)
theorem BS.all{α:Type}{a b:List α}(h:BS a b a.length)(hl:a.length=b.length):a=b:=Zv λi=>by
 rcases zt i a.length with h1|h1
 .exact h i h1
 .rw [zR h1,zR (by omega)]
theorem Pf{α:Type}{a b:List α}{j:Nat}{x y:α}(hx:a[j]? =some x)(hy:b[j]? =some y)(e:¬x=y):¬a=b:=λh=>by subst h;rw[hx] at hy;exact e (yX hy)
theorem Ov{α:Type}{a b:List α}(h:¬(a.length:Int)=b.length):¬a=b:=λe=>h (by rw[e])
theorem DL{a b:List Int}:Fun Tryz.prog 15 [slA c6 a,slA c6 b] (.bool (decide (a=b))):=by
 refine Fun.assume rfl λhg0=>?_;refine Fun.of (iX (by simp) ?_) rfl rfl
 conv=>whnf
 have hg:=(cE (hg0 (slA c6 a) (by simp))).1
 conv=>whnf
 repeat' (first|(refine gC ?_;first|refine .not ?_|refine al.dec (λhc=>?_) (λhc=>?_))|refine gL (.map ?_)|refine ae.nrm ?_)<;>conv=>whnf
 .refine aD.count (fb:=true) (a.length) (λst_ j=>st_.nI [(5,.int .i64 j)]) (λj=>BS a b j) ?_ ?_ (λj hj hij=>?_) (λhij=>?_)
  .exact BS.zero
  .exact aH
  .conv=>whnf
   repeat' (first|(refine gC ?_;first|refine .not ?_|refine gD (cI ?_)|refine al.dec (λhc=>?_) (λhc=>?_))|refine gW (wI ?_)|refine gL (.map ?_)|(refine gI ?_;(refine gM ?_;refine iH λx hx=>?_))|refine ae.nrm ?_)<;>conv=>whnf
   .refine ⟨hij.succ (by assumption) (by assumption) (by assumption),?_⟩
    exact aH
   .exact IF (Pf (by assumption) (by assumption) (by assumption))
  .conv=>whnf
   repeat' (first|(refine gC ?_;first|refine cN ?_|refine gD (cJ ?_))|refine gL (.map ?_)|refine ae.nrm ?_)<;>conv=>whnf
   exact LN (hij.all (by omega))
 .exact IF (Ov (by assumption))
def isI(n:Int)(x:Int):Bool:=decide (n=x)
theorem Ni(l:List Int)(n:Int):l.any (isI n)=decide (n∈l):=by
 rw[Bool.eq_iff_iff];simp[isI]
theorem EL{l:List Int}{n:Int}:Fun Tryz.prog 123 [slA c6 l,.int .i64 n] (.bool (decide (n∈l))):=by
 rw[<-Ni];refine Fun.assume rfl λhg0=>?_;have hg:=(cE (hg0 (slA c6 l) (by simp))).1
 refine Fun.of (mQ (by simp) ?_) rfl rfl
 conv=>whnf
 skip;refine aD.count (fb:=true) (l.length) (λst_ j=>st_.nI [(5,.int .i64 j)]) (λj=>∀i x,i<j->l[i]? =some x->isI n x=false) ?_ ?_ (λj hj hij=>?_) (λhij=>?_)
 .exact Cz
 .exact aH
 .conv=>whnf
  repeat' (first|(refine gC ?_;first|refine gD (cI ?_)|refine al.dec (λhc=>?_) (λhc=>?_))|refine gW (wI ?_)|refine gL (.map ?_)|(refine gI ?_;(refine gM ?_;refine iH λx hx=>?_))|refine ae.nrm ?_)<;>conv=>whnf
  .rw [LU (by assumption) (by simp[isI, *])]
  .refine ⟨CA hij (by assumption) (by simp[isI];omega),?_⟩
   exact aH
 .conv=>whnf
  repeat' (first|refine gC (gD (cJ ?_))|refine gL (.map ?_)|refine ae.nrm ?_)<;>conv=>whnf
  rw[LR hij]
theorem B8{l m:List Tm}:Fun Tryz.prog 69 [slA Tm.av l,slA Tm.av m] (.bool (decide (Tm.jQ l m=0))):=by
 refine Fun.of (ij (by simp) ?_) rfl rfl
 conv=>whnf
 repeat' (first|refine gF (aa.fn (Lb) ?_)|refine ae.nrm ?_)<;>conv=>whnf
def Gl.same(a b:Gl):Bool:=decide (a.op=b.op)&&(decide (a.name=b.name)&&(decide (a.args.length=b.args.length)&&decide (Tm.jQ a.args b.args=0)))
theorem Gl.Ax(a:Gl):a.same a=true:=by simp[Gl.same,Tm.BA]
theorem tZ{a b:Gl}:Fun Tryz.prog 35 [a.av,b.av] (.bool (a.same b)):=by
 refine Fun.of (iY (by simp) ?_) rfl rfl
 conv=>whnf
 repeat' (first|refine gF (aa.fn (B8) ?_)|(refine gC ?_;first|refine cN ?_|(refine gD ?_;first|refine cI ?_|refine cJ ?_)|refine al.dec (λhc=>?_) (λhc=>?_))|refine gL (.map ?_)|refine ae.nrm ?_)<;>conv=>whnf
 all_goals simp[Gl.same, *]
 all_goals omega
end Go.CK
namespace Go.CK
open Go.AM Go.Proofs
end Go.CK
namespace Go.CK
open Go.AM Go.Proofs
mutual
def Tm.vs:Tm->List Int
 |.mk k n _ l=>if k=1 then [n] else if k=2 then Tm.vss l else []
def Tm.vss:List Tm->List Int
 |[]=>[]
 |t::r=>t.vs++Tm.vss r
end
def Tm.use(t:Tm):List Tm:=if t.kind=2 then t.args else []
theorem Tm.NS{t:Tm}(h:t.kind=1):t.vs=[t.num]:=by
 obtain⟨k,n,s,l⟩:=t;simp only[Tm.kind] at h;rw[Tm.vs,if_pos h];rfl
theorem Tm.J7{t:Tm}(h:¬t.kind=1):t.vs=Tm.vss t.use:=by
 obtain⟨k,n,s,l⟩:=t;simp only[Tm.kind] at h;rw[Tm.vs,if_neg h];unfold Tm.use;show _=Tm.vss (if k=2 then l else [])
 by_cases h2:k=2
 .rw [if_pos h2,if_pos h2]
 .rw [if_neg h2,if_neg h2,Tm.vss]
theorem Tm.BO:∀l m:List Tm,Tm.vss (l++m)=Tm.vss l++Tm.vss m
 |[],m=>rfl
 |t::l,m=>by rw[ze,Tm.vss,Tm.vss,Tm.BO l m,zg]
theorem Tm.nY{l:List Tm}{j:Nat}{x:Tm}(h:l[j]? =some x):Tm.vss (l.take (j+1))=Tm.vss (l.take j)++x.vs:=by
 obtain⟨hj,rfl⟩:=zB.1 h;rw[List.take_succ_eq_append_getElem hj,Tm.BO];simp[Tm.vss]
theorem Tm.pf{l:List Tm}{j:Nat}{x:Tm}(h:l[j]? =some x):Tm.vss l=Tm.vss (l.take j)++(x.vs++Tm.vss (l.drop (j+1))):=by
 rw[<-zg,<-Tm.nY h,<-Tm.BO,List.take_append_drop]
def ys1(l:List Int):List (List AV):=l.map λn=>[c6 n]
theorem qX(l m:List Int):ys1 (l++m)=ys1 l++ys1 m:=by simp[ys1]
theorem CB{a:Tm}{x:Tm}(h:x∈a.use):x∈a.args:=by
 unfold Tm.use at h;split at h
 .exact h
 .cases h
theorem Ng{a:Tm}:Fun Tryz.prog 130 [a.avw] (slA Tm.av a.use):=by
 refine Fun.of (Cs (by simp) ?_) rfl rfl
 conv=>whnf
 repeat' (first|(refine gC ?_;refine al.dec (λhc=>?_) (λhc=>?_))|refine ae.nrm ?_)<;>conv=>whnf
 all_goals simp[Tm.use, *]
theorem eB{a:Tm}:Fun Tryz.prog 100 [a.avw] (slA Tm.av a.use):=by
 refine Fun.of (lT (by simp) ?_) rfl rfl
 conv=>whnf
 repeat' (first|(refine gC ?_;refine al.dec (λhc=>?_) (λhc=>?_))|refine ae.nrm ?_)<;>conv=>whnf
 all_goals simp[Tm.use, *]
structure YC(P:Program)(b n0:Nat)(xs:List (List AV))(J:List (List AV)->List Box->Prop)(Jx:List Box->Prop):Prop where
 hb:b<n0
 hJ:∀pre bs',J pre bs'->bs'.length=n0/\ai n0 bs'=true
 hJx:∀bs',Jx bs'->bs'.length=n0/\ai n0 bs'=true
 hr:∀pre y rest bs' cs,pre++y::rest=xs->J pre bs'->pd P b y (bs'++cs) λr bs2=>∃own,bs2=own++cs/\((r=.bool true/\J (pre++[y]) own)\/(r=.bool false/\Jx own))
theorem bl2{n0:Nat}{own cs:List Box}(h:own.length=n0/\ai n0 own=true)(hcs:ai (n0+cs.length) cs=true):ai (own++cs).length (own++cs)=true:=by
 rw[zC,h.1];exact bd (bt (yM _ _) h.2) hcs
theorem Mh(a:Tm):∀{b n0:Nat} {xs:List (List AV)} {J:List (List AV)->List Box->Prop} {Jx:List Box->Prop} (hC:YC Tryz.prog b n0 xs J Jx) (pre rest:List (List AV)) (bs cs:List Box),pre++(ys1 a.vs++rest)=xs->J pre bs->ai (n0+cs.length) cs=true->
  AM.Sem Tryz.prog 108 [a.avw,.yl b] (bs++cs) λr bs'=>∃own,bs'=own++cs/\((r=.bool true/\J (pre++ys1 a.vs) own)\/(r=.bool false/\Jx own)):=by
 induction a using Tm.bD with
 |h k n s l ih=>
 intro b n0 xs J Jx hC pre rest bs cs hx hj hcs;generalize ha:Tm.mk k n s l=a at hx|-
 have ih:∀t∈a.args,∀{b n0:Nat} {xs:List (List AV)} {J:List (List AV)->List Box->Prop} {Jx:List Box->Prop} (hC:YC Tryz.prog b n0 xs J Jx) (pre rest:List (List AV)) (bs cs:List Box),pre++(ys1 t.vs++rest)=xs->J pre bs->ai (n0+cs.length) cs=true->
  AM.Sem Tryz.prog 108 [t.avw,.yl b] (bs++cs) λr bs'=>∃own,bs'=own++cs/\((r=.bool true/\J (pre++ys1 t.vs) own)\/(r=.bool false/\Jx own)):=by subst ha;exact ih
 clear ha;have hbl:=hC.hJ _ _ hj;refine Sem.assume λhg0 _=>?_;have hg:=(pD (hg0 a.avw (by simp) rfl)).2.1
 have hgu:a.use.length<=140737488355328:=by unfold Tm.use;split<;>simp[hg]
 refine y9 (by simp) ?_
 conv=>whnf
 repeat' (first|refine gF (aa.fn (Ng) ?_)|(refine gC ?_;refine al.dec (λhc=>?_) (λhc=>?_))|refine gL (.map ?_)|refine gB (.last ?_))<;>conv=>whnf
 .rw [Tm.NS hc] at hx|-;have hY:=hC.hr pre [c6 a.num] rest bs (cs++[.cells [.int .i64 a.kind,.int .i64 a.num,.str a.name,.sl .no (a.args.map Tm.av)]]) hx hj;rw[<-zg] at hY;refine Di.of hY ?_;rintro r bs' ⟨own,rfl,h⟩
  have ho:own.length=n0/\ai n0 own=true:=by
   rcases h with ⟨_,h⟩|⟨_,h⟩
   .exact hC.hJ _ _ h
   .exact hC.hJx _ h
  rcases h with ⟨rfl,h⟩|⟨rfl,h⟩
  .conv=>whnf
   skip;refine ae.uR (own:=own++cs) (zg _ _ _).symm (show (bs++cs).length<=(own++cs).length by simp;omega) rfl (bl2 ho hcs) ?_
   exact ae.slot ⟨own,rfl,.inl ⟨rfl,h⟩⟩
  .conv=>whnf
   skip;refine ae.uR (own:=own++cs) (zg _ _ _).symm (show (bs++cs).length<=(own++cs).length by simp;omega) rfl (bl2 ho hcs) ?_
   exact ae.slot ⟨own,rfl,.inr ⟨rfl,h⟩⟩
 .rw [Tm.J7 hc] at hx|-;refine aD.by (fb:=false) (λ_ (q:Nat×List Box)=>⟨[(1,.yl b),(15,slA Tm.av a.use),(16,.int .i64 a.use.length),(17,.int .i64 q.1)],q.2++cs,(bs++cs).length⟩) (λq=>q.1<=a.use.length/\J (pre++ys1 (Tm.vss (a.use.take q.1))) q.2) (λq=>a.use.length-q.1) (0,bs) ⟨zJ _,by simpa[Tm.vss,ys1] using hj⟩ ?_ ?_
  .refine ah.uR (own:=bs++cs) rfl (zG _) ?_ (bl2 hbl hcs) ?_
   .simp [l9,AV.lt,AV.lt1,AV.lt0,AV.a7];have:=hC.hb;omega
   .refine ah.atS ?_ rfl rfl
    conv=>whnf
    repeat' (first|(refine gV ?_;first|refine vE ?_|refine vI ?_)|exact True.intro)<;>conv=>whnf
  .rintro ⟨j,own⟩ ⟨hj1,hj2⟩;dsimp only at hj1 hj2|-;have ho:=hC.hJ _ _ hj2
   by_cases hlt:j<a.use.length
   .obtain ⟨x,hxj⟩:∃x,a.use[j]? =some x:=⟨_,zA hlt⟩
    conv=>whnf
    repeat' (first|refine gC (gD (cI ?_))|refine gI (gT (iA ?_))|refine gB (.last ?_)|refine IP.last ?_)<;>conv=>whnf
    have hsp:=Tm.pf hxj;have htk:=Tm.nY hxj;have hC2:=ih x (CB (zE hxj)) hC (pre++ys1 (Tm.vss (a.use.take j))) (ys1 (Tm.vss (a.use.drop (j+1)))++rest) own (cs++[.cells [.int .i64 x.kind,.int .i64 x.num,.str x.name,.sl .no (x.args.map Tm.av)]]) (by rw[<-hx,hsp];simp[qX]) hj2 (bd (bt (by simp) hcs) rfl)
    rw[<-zg] at hC2;refine aa.raw hC2 ?_;rintro r bs' ⟨own2,rfl,⟨rfl,h⟩|⟨rfl,h⟩⟩
    .have ho2:=hC.hJ _ _ h
     conv=>whnf
     repeat' (first|(refine gC ?_;first|refine cY ?_|refine .not ?_)|refine gW (wI ?_))<;>conv=>whnf
     refine⟨(j+1,own2),⟨⟨hlt,?_⟩,by simp only;omega⟩,ah.uR (own:=own2++cs) (zg _ _ _).symm (show (bs++cs).length<=(own2++cs).length by simp;omega) ?_ (bl2 ho2 hcs) ?_⟩
     .dsimp only;rw[htk,qX,<-zg];exact h
     .simp [l9,AV.lt,AV.lt1,AV.lt0,AV.a7];have:=hC.hb;omega
     .refine ah.atS ?_ rfl rfl
      conv=>whnf
      repeat' (first|(refine gV ?_;first|refine vE ?_|refine vI ?_)|exact True.intro)<;>conv=>whnf
    .have ho2:=hC.hJx _ h
     conv=>whnf
     repeat' (refine gC ?_;first|refine cN ?_|refine .not ?_)<;>conv=>whnf
     refine ae.uR (own:=own2++cs) (zg _ _ _).symm (show (bs++cs).length<=(own2++cs).length by simp;omega) rfl (bl2 ho2 hcs) ?_
     exact ae.slot ⟨own2,rfl,.inr ⟨rfl,h⟩⟩
   .obtain rfl:j=a.use.length:=by omega
    rw[zz] at hj2
    conv=>whnf
    repeat' refine gC (gD (cJ ?_))<;>conv=>whnf
    exact ae.slot ⟨own,rfl,.inl ⟨rfl,hj2⟩⟩
theorem CV{l:List Tm}:Fun Tryz.prog 88 [slA Tm.av l] (.fn (.func 107) [] [.ept [slA Tm.av l]]):=by
 refine Fun.of (Cr (by simp) ?_) rfl rfl
 conv=>whnf
 skip;refine ae.of (Ns.freeze 0 rfl rfl rfl rfl ?_)
 conv=>whnf
 rfl
theorem Bv(l:List Tm):xW Tryz.prog 107 [.ept [slA Tm.av l]] (ys1 (Tm.vss l)):=by
 intro b bs J Jx hb hJ hJx hr h0;have hC:YC Tryz.prog b bs.length (ys1 (Tm.vss l)) J Jx:=⟨hb,hJ,hJx,hr⟩;refine Sem.assume λ_ hg0=>?_;have hg:=(cE (hg0 [slA Tm.av l] (by simp) (slA Tm.av l) (by simp))).1
 refine uK (by simp) ?_
 conv=>whnf
 repeat' refine gL (.map ?_)<;>conv=>whnf
 refine aD.by (fb:=false) (λ_ (q:Nat×List Box)=>⟨[(0,.yl b),(1,.ept [slA Tm.av l]),(5,.int .i64 l.length),(6,.int .i64 q.1)],q.2,bs.length⟩) (λq=>q.1<=l.length/\J (ys1 (Tm.vss (l.take q.1))) q.2) (λq=>l.length-q.1) (0,bs) ⟨zJ _,by simpa[Tm.vss,ys1] using h0⟩ (ah.eqS rfl rfl rfl) ?_
 rintro⟨j,own⟩ ⟨hj1,hj2⟩;dsimp only at hj1 hj2|-;have ho:=hC.hJ _ _ hj2
 by_cases hlt:j<l.length
 .obtain ⟨x,hxj⟩:∃x,l[j]? =some x:=⟨_,zA hlt⟩
  conv=>whnf
  repeat' (first|refine gC (gD (cI ?_))|refine gI (gT (iA ?_)))<;>conv=>whnf
  have hsp:=Tm.pf hxj;have htk:=Tm.nY hxj;have hC2:=Mh x hC (ys1 (Tm.vss (l.take j))) (ys1 (Tm.vss (l.drop (j+1)))) own [] (by rw[hsp,qX,qX]) hj2 rfl
  rw[zy] at hC2;refine aa.raw hC2 ?_;rintro r bs' ⟨own2,rfl,⟨rfl,h⟩|⟨rfl,h⟩⟩
  .have ho2:=hC.hJ _ _ h
   conv=>whnf
   repeat' (first|(refine gC ?_;first|refine cY ?_|refine .not ?_)|refine gW (wI ?_))<;>conv=>whnf
   refine⟨(j+1,own2),⟨⟨hlt,?_⟩,by simp only;omega⟩,?_⟩
   .dsimp only;rw[htk,qX];exact h
   .refine ah.atS ?_ (zy _) rfl
    conv=>whnf
    repeat' (first|(refine gV ?_;first|refine vE ?_|refine vI ?_)|exact True.intro)<;>conv=>whnf
  .conv=>whnf
   repeat' (first|(refine gC ?_;first|refine cN ?_|refine .not ?_)|refine ae.nrm ?_)<;>conv=>whnf
   refine Or.inr ?_;rw[zy];exact h
 .obtain rfl:j=l.length:=by omega
  rw[zz] at hj2
  conv=>whnf
  repeat' (first|refine gC (gD (cJ ?_))|refine ae.nrm ?_)<;>conv=>whnf
  exact Or.inl hj2
def uV(l:List Int)(n:Int):List Int:=if n∈l then l else l++[n]
def bL(l m:List Int):List Int:=m.foldl uV l
theorem pL(l m k:List Int):bL l (m++k)=bL (bL l m) k:=by simp[bL]
theorem Hl(l m:List Int)(n:Int):bL l (m++[n])=uV (bL l m) n:=by simp[bL]
theorem L2{l:List Int}{n x:Int}:x∈uV l n↔x∈l\/x=n:=by
 unfold uV;split
 .exact ⟨.inl,λh=>h.elim id λe=>by subst e;assumption⟩
 .simp
theorem BI:∀{m l:List Int} {x:Int},x∈bL l m↔x∈l\/x∈m
 |[],l,x=>by simp[bL]
 |n::m,l,x=>by
  show x∈bL (uV l n) m↔_;rw[BI,L2,zI,or_assoc]
theorem L3(l:List Int)(n:Int):(uV l n).length<=l.length+1:=by
 unfold uV;split<;>simp
theorem jq:∀(m l:List Int),(bL l m).length<=l.length+m.length
 |[],l=>by simp[bL]
 |n::m,l=>by
  have h1:=jq m (uV l n);have h2:=L3 l n;show (bL (uV l n) m).length<=_;simp only[zX];omega
theorem IJ{l:List Int}{n:Int}(h:n∈l):uV l n=l:=if_pos h
theorem FL{l:List Int}{n:Int}(h:¬n∈l):uV l n=l++[n]:=if_neg h
def bR(l:List Int):List Int:=bL [] l
theorem HW{l:List Tm}(hl:(Tm.vss l).length<=100000):Fun Tryz.prog 97 [.fn (.func 107) [] [.ept [slA Tm.av l]]] (slA c6 (bR (Tm.vss l))):=by
 refine Fun.of (Cp (by simp) ?_) rfl rfl
 conv=>whnf
 skip
 refine jU.each (λn:Int=>[c6 n]) (Tm.vss l) ⟨[(2,.sl .full []),(3,.ptr 0 0),(4,.ptr 2 0),(7,.fn (.func 107) [] [.ept [slA Tm.av l]])],[.cells [.sl (.own 1) []],.mp [],.cells [.mpt 1]],0⟩
  (λpre=>[.cells [.sl (.own 1) ((bR pre).map c6)],.mp (i7 (.bool true) (bR pre)),.cells [.mpt 1]]) (Bv l) (by kernel_rfl) ?_ rfl (λ_=>rfl) (λ_=>rfl) rfl (λ_=>⟨rfl,rfl⟩) ?_ ?_
 .refine ah.Hc 0 0 1 rfl (by simp) ?_
  exact ah.eqS rfl rfl rfl
 .intro x pre y rest hxs
  have hpl:(bR pre).length+1<=100000:=by
   have:=congrArg List.length hxs;have h2:=jq pre [];simp at this;unfold bR;simp at h2;omega
  have hfs:bR (pre++[y])=uV (bR pre) y:=Hl [] pre y
  conv=>whnf
  repeat' (first|(refine gC ?_;first|refine cY ?_|refine cN ?_|refine .not ?_)|refine gN (nS ?_)|refine gA (aP ?_)|refine gMp (mA ?_)|(refine gMs ?_;refine mS (λhc=>?_) (λhc=>?_)))<;>conv=>whnf
  .rw [IJ hc] at hfs;refine qU.by ?_ rfl rfl rfl
   conv=>whnf
   repeat' (first|refine xB ?_|(refine BxN.mk ?_ ?_;(focus (simp[hfs];done)))|exact True.intro)<;>conv=>whnf
  .rw [FL hc] at hfs;refine qU.by ?_ rfl rfl rfl
   conv=>whnf
   repeat' (first|refine xB ?_|(refine BxN.mk ?_ ?_;(focus (simp[hfs,Ek,St.ev];done)))|exact True.intro)<;>conv=>whnf
 .conv=>whnf
  repeat' refine ae.nrm ?_<;>conv=>whnf
end Go.CK
namespace Go.CK
open Go.AM Go.Proofs
theorem FA{x:At}(hl:(Tm.vss x.args).length<=100000):Fun Tryz.prog 71 [x.av] (slA c6 (bR (Tm.vss x.args))):=by
 refine Fun.of (tp (by simp) ?_) rfl rfl
 conv=>whnf
 repeat' (first|(refine gF ?_;first|refine aa.fn (CV) ?_|refine aa.fn (HW hl) ?_)|refine ae.nrm ?_)<;>conv=>whnf
theorem LD{t:Tm}:Fun Tryz.prog 88 [.sl .no [t.avw]] (.fn (.func 107) [] [.ept [.sl .no [t.avw]]]):=by
 have:=CV (l:=[t]);simp only[slA,zP,Zf,Tm.xL] at this;exact this
theorem HF{k n:Nat}{l:List Int}:ai n [aS (AV.int .i64) 1 k l]=true:=by
 simp only[aS,ai,Bool.and_true,zS];exact λx hx=>(v7.NB l _ n x hx).2
theorem ah.refl(s:St):ah s s:=⟨aE.refl s⟩
def No(own:List Box)(l:List Int)(r:AV)(bs':List Box):Prop:=∃(J:List Box) (k':Nat),l.length<=k'/\ai (own.length+J.length) J=true/\r=.bsl (own.length+J.length) l.length k'/\bs'=own++(J++[aS (AV.int .i64) 1 k' l])
theorem KA(a:Tm):∀(own:List Box) (l:List Int) (k:Nat),ai own.length own=true->l.length<=k->l.length+a.vs.length<=1000000->
  AM.Sem Tryz.prog 98 [.bsl own.length l.length k,a.avw] (own++[aS (AV.int .i64) 1 k l]) (No own (bL l a.vs)):=by
 induction a using Tm.bD with
 |h k n s l ih=>
 intro own l0 k0 ho hk0 hb;generalize ha:Tm.mk k n s l=a at hb|-
 have ih:∀t∈a.args,∀(own:List Box) (l:List Int) (k:Nat),ai own.length own=true->l.length<=k->l.length+t.vs.length<=1000000->
  AM.Sem Tryz.prog 98 [.bsl own.length l.length k,t.avw] (own++[aS (AV.int .i64) 1 k l]) (No own (bL l t.vs)):=by subst ha;exact ih
 clear ha;refine Sem.assume λhg0 _=>?_;have hg:=(pD (hg0 a.avw (by simp) rfl)).2.1
 have hgu:a.use.length<=140737488355328:=by unfold Tm.use;split<;>simp[hg]
 refine eh (by simp) ?_
 conv=>whnf
 repeat' (first|refine gF (aa.fn (eB) ?_)|(refine gC ?_;first|refine cN ?_|(refine gD ?_;first|refine cI ?_|refine cJ ?_)|refine al.dec (λhc=>?_) (λhc=>?_))|refine gB (.last ?_))<;>conv=>whnf
 .have hv:=Tm.NS hc;have hu:a.use.length=0:=by unfold Tm.use;rw[if_neg (by omega)];rfl
  refine aa.view (EL (l:=l0) (n:=a.num)) rfl ?_ ?_
  .refine .cons (.row (l:=l0) v7 ?_ rfl) (.cons (.same rfl) .nil);simp[aS]
  conv=>whnf
  repeat' (first|refine gF (aa.fn (eB) ?_)|(refine gC ?_;first|refine .not ?_|refine gD (cI ?_)|refine al.dec (λhc=>?_) (λhc=>?_))|refine gB (.last ?_))<;>conv=>whnf
  .rw [hv,show bL l0 [a.num]=l0 from IJ hc];refine aD.count (fb:=false) 0 (λst_ _=>st_) (λ_=>True) trivial (ah.refl _) (λj hj=>by omega) (λ_=>?_)
   conv=>whnf
   repeat' (first|refine gC (gD (cJ ?_))|refine gL (.map ?_))<;>conv=>whnf
   refine ae.uR (own:=own++[aS (AV.int .i64) 1 k0 l0]) rfl (zG _) ?_ ?_ ?_
   .simp [l9,AV.lt,AV.lt1,AV.lt0,AV.a7]
   .exact bd (bt (by simp) ho) HF
   .exact ae.slot ⟨[],k0,hk0,rfl,rfl,rfl⟩
  .refine qW.one (l:=l0) v7 (by simp[aS]) rfl hk0 (by omega) (λk2 hk2=>?_)
   rw[Kv]
   conv=>whnf
   skip;refine uW.of (cs:=[.int .i64 a.kind,.int .i64 a.num,.str a.name,.sl .no (a.args.map Tm.av)]) (by simp[ab,Box.cs?]) ?_
   conv=>whnf
   repeat' refine gF (aa.fn (eB) ?_)<;>conv=>whnf
   rw[hv,show bL l0 [a.num]=l0++[a.num] from FL hc];refine aD.count (fb:=false) 0 (λst_ _=>st_) (λ_=>True) trivial (ah.refl _) (λj hj=>by omega) (λ_=>?_)
   conv=>whnf
   repeat' (first|refine gC (gD (cJ ?_))|refine gL (.map ?_))<;>conv=>whnf
   refine ae.slot ⟨[.dead,.cells [.int .i64 a.kind,.int .i64 a.num,.str a.name,.sl .no (a.args.map Tm.av)]],k2,hk2,rfl,?_,?_⟩
   .simp [St.get,aq]
   .simp
 .refine aD.by (fb:=false) (λst_ (q:Nat×Nat×List Box)=>⟨[(0,.bsl (own.length+q.2.2.length) (bL (l0) (Tm.vss (a.use.take q.1))).length q.2.1),(5,slA Tm.av a.use),(6,.int .i64 q.1)],own++(q.2.2++[aS (AV.int .i64) 1 q.2.1 (bL (l0) (Tm.vss (a.use.take q.1)))]),st_.lo⟩) (λq=>q.1<=a.use.length/\(bL (l0) (Tm.vss (a.use.take q.1))).length<=q.2.1/\ai (own.length+q.2.2.length) q.2.2=true) (λq=>a.use.length-q.1) (0,k0,[]) ⟨zJ _,by simp[Tm.vss,bL, *],rfl⟩ ?_ ?_
  .refine ah.uR (own:=own++[aS (AV.int .i64) 1 k0 l0]) rfl (zG _) ?_ ?_ ?_
   .simp [l9,AV.lt,AV.lt1,AV.lt0,AV.a7]
   .exact bd (bt (by simp) ho) HF
   .refine ah.atS ?_ rfl rfl
    conv=>whnf
    repeat' (first|(refine gV ?_;first|refine vE ?_|refine vI ?_|(refine WkN.norm ?_ ?_;(focus (simp[AV.norm,AV.ax,Tm.vss,bL];done))))|exact True.intro)<;>conv=>whnf
  .rintro ⟨j,k1,J⟩ ⟨hj1,hj2,hJ⟩;dsimp only at hj1 hj2 hJ|-
   by_cases hlt:j<a.use.length
   .obtain ⟨x,hxj⟩:∃x,a.use[j]? =some x:=⟨_,zA hlt⟩;have hsp:=Tm.pf hxj;have htk:=Tm.nY hxj;have hle:=congrArg List.length hsp;simp only[zC] at hle;have hle2:=jq (Tm.vss (a.use.take j)) (l0);have hI:=ih x (CB (zE hxj)) (own++J) (bL (l0) (Tm.vss (a.use.take j))) k1 (by rw[zC];exact bd (bt (yM _ _) ho) hJ) hj2 (by rw[Tm.J7 hc] at hb;omega)
    rw[zC,zg] at hI
    conv=>whnf
    repeat' (first|refine gC (gD (cI ?_))|refine gL (.map ?_)|refine gI (gT (iA ?_)))<;>conv=>whnf
    refine aa.raw hI ?_;rintro r bs' ⟨J2,k2,hk2,hJ2,rfl,rfl⟩
    conv=>whnf
    repeat' refine gW (wI ?_)<;>conv=>whnf
    refine⟨(j+1,k2,J++J2),⟨⟨hlt,?_,?_⟩,by simp only;omega⟩,?_⟩
    .dsimp only;rw[htk,pL];exact hk2
    .dsimp only;rw[zC,<-Zq];rw[zC] at hJ2;exact bd (bt (yM _ _) hJ) hJ2
    .dsimp only;rw[htk,pL];refine ah.atS ?_ (by simp) rfl
     conv=>whnf
     repeat' (first|(refine gV ?_;first|refine vE ?_|refine vI ?_|(refine WkN.norm ?_ ?_;(focus (simp[AV.norm,AV.ax,Zq];done))))|exact True.intro)<;>conv=>whnf
   .obtain rfl:j=a.use.length:=by omega
    rw[zz] at hj2
    conv=>whnf
    repeat' (first|refine gC (gD (cJ ?_))|refine gL (.map ?_))<;>conv=>whnf
    rw[zz,Tm.J7 hc];exact ae.slot ⟨J,k1,hj2,hJ,rfl,rfl⟩
theorem I5(a:Tm)(own:List Box)(ho:ai own.length own=true)(hb:a.vs.length<=1000000):AM.Sem Tryz.prog 98 [.sl .full [],a.avw] own (No own (bL [] a.vs)):=by
 have ih:∀t∈a.args,∀(own:List Box) (l:List Int) (k:Nat),ai own.length own=true->l.length<=k->l.length+t.vs.length<=1000000->
  AM.Sem Tryz.prog 98 [.bsl own.length l.length k,t.avw] (own++[aS (AV.int .i64) 1 k l]) (No own (bL l t.vs)):=λt _=>KA t
 have hb:([]:List Int).length+a.vs.length<=1000000:=by simpa using hb
 refine Sem.assume λhg0 _=>?_;have hg:=(pD (hg0 a.avw (by simp) rfl)).2.1
 have hgu:a.use.length<=140737488355328:=by unfold Tm.use;split<;>simp[hg]
 refine eh (by simp) ?_
 conv=>whnf
 repeat' (first|(refine gF ?_;first|refine aa.fn (eB) ?_|refine aa.fn (EL (l:=[]) (n:=a.num)) ?_)|(refine gC ?_;first|refine cN ?_|refine .not ?_|(refine gD ?_;first|refine cI ?_|refine cJ ?_)|refine al.dec (λhc=>?_) (λhc=>?_))|refine gB (.last ?_))<;>conv=>whnf
 .cases hc
 .have hv:=Tm.NS (t:=a) (by assumption)
  have hu:a.use.length=0:=by unfold Tm.use;rw[if_neg (by omega)];rfl
  refine qW.Oq (l':=[a.num]) v7 (by simp) (λk2 hk2=>?_)
  conv=>whnf
  repeat' (first|refine gF (aa.fn (eB) ?_)|refine gB (.last2 ?_))<;>conv=>whnf
  rw[hv,show bL [] [a.num]=[a.num] from rfl];refine aD.count (fb:=false) 0 (λst_ _=>st_) (λ_=>True) trivial (ah.refl _) (λj hj=>by omega) (λ_=>?_)
  conv=>whnf
  repeat' (first|refine gC (gD (cJ ?_))|refine gL (.map ?_))<;>conv=>whnf
  refine ae.slot ⟨[.cells [.int .i64 a.kind,.int .i64 a.num,.str a.name,.sl .no (a.args.map Tm.av)]],k2,hk2,rfl,?_,?_⟩
  .simp [St.get,aq]
  .simp
 .refine aD.by (fb:=false) (λst_ (q:Nat×Nat×List Box)=>⟨[(0,.bsl (own.length+q.2.2.length) (bL ([]) (Tm.vss (a.use.take q.1))).length q.2.1),(5,slA Tm.av a.use),(6,.int .i64 q.1)],own++(q.2.2++[aS (AV.int .i64) 1 q.2.1 (bL ([]) (Tm.vss (a.use.take q.1)))]),st_.lo⟩) (λq=>q.1<=a.use.length/\(bL ([]) (Tm.vss (a.use.take q.1))).length<=q.2.1/\ai (own.length+q.2.2.length) q.2.2=true) (λq=>a.use.length-q.1) (0,0,[]) ⟨zJ _,by simp[Tm.vss,bL, *],rfl⟩ ?_ ?_
  .refine ah.uR (own:=own) rfl (zG _) rfl ho ?_;refine ah.Kc 0 rfl ?_;refine ah.atS ?_ rfl rfl
   conv=>whnf
   repeat' (first|(refine gV ?_;first|refine vE ?_|refine vI ?_|(refine WkN.norm ?_ ?_;(focus (simp[AV.norm,AV.ax,Tm.vss,bL];done))))|exact True.intro)<;>conv=>whnf
  .rintro ⟨j,k1,J⟩ ⟨hj1,hj2,hJ⟩;dsimp only at hj1 hj2 hJ|-
   by_cases hlt:j<a.use.length
   .obtain ⟨x,hxj⟩:∃x,a.use[j]? =some x:=⟨_,zA hlt⟩;have hsp:=Tm.pf hxj;have htk:=Tm.nY hxj;have hle:=congrArg List.length hsp;simp only[zC] at hle;have hle2:=jq (Tm.vss (a.use.take j)) ([]);have hI:=ih x (CB (zE hxj)) (own++J) (bL ([]) (Tm.vss (a.use.take j))) k1 (by rw[zC];exact bd (bt (yM _ _) ho) hJ) hj2 (by rw[Tm.J7 hc] at hb;omega)
    rw[zC,zg] at hI
    conv=>whnf
    repeat' (first|refine gC (gD (cI ?_))|refine gL (.map ?_)|refine gI (gT (iA ?_)))<;>conv=>whnf
    refine aa.raw hI ?_;rintro r bs' ⟨J2,k2,hk2,hJ2,rfl,rfl⟩
    conv=>whnf
    repeat' refine gW (wI ?_)<;>conv=>whnf
    refine⟨(j+1,k2,J++J2),⟨⟨hlt,?_,?_⟩,by simp only;omega⟩,?_⟩
    .dsimp only;rw[htk,pL];exact hk2
    .dsimp only;rw[zC,<-Zq];rw[zC] at hJ2;exact bd (bt (yM _ _) hJ) hJ2
    .dsimp only;rw[htk,pL];refine ah.atS ?_ (by simp) rfl
     conv=>whnf
     repeat' (first|(refine gV ?_;first|refine vE ?_|refine vI ?_|(refine WkN.norm ?_ ?_;(focus (simp[AV.norm,AV.ax,Zq];done))))|exact True.intro)<;>conv=>whnf
   .obtain rfl:j=a.use.length:=by omega
    rw[zz] at hj2
    conv=>whnf
    repeat' (first|refine gC (gD (cJ ?_))|refine gL (.map ?_))<;>conv=>whnf
    rw[zz,Tm.J7 hc];exact ae.slot ⟨J,k1,hj2,hJ,rfl,rfl⟩
theorem Gj{t:Tm}(hb:t.vs.length<=100000):Fun Tryz.prog 81 [t.avw] (slA c6 (bR t.vs)):=by
 refine Fun.of (lg (by simp) ?_) rfl rfl
 conv=>whnf
 repeat' refine gB (.last ?_)<;>conv=>whnf
 refine aa.raw (I5 t _ rfl (by omega)) ?_
 rintro r bs' ⟨J,k,hk,hJ,rfl,rfl⟩
 conv=>whnf
 skip;refine ae.froze (l:=bL [] t.vs) v7 rfl (by simp[aS,Nat.add_comm 1]) rfl ?_
 exact ae.slot rfl
end Go.CK
