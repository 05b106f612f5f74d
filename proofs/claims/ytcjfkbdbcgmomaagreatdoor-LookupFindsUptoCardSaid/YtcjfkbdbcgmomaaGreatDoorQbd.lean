/-
  By an AI agent.
-/
import Derived.Test.YtcjfkbdbcgmomaaGreatDoorQbc
import Derived.Lib.SpaceUEq
set_option linter.unusedSimpArgs false
set_option linter.unusedVariables false
set_option maxRecDepth 100000
namespace Go.CK
open Go.AM Go.Proofs
def HO(s:ByteArray):Bool:=decide (s=⟨⟨[99,111,110,115,116,114,97,105,110,116]⟩⟩)||(decide (s=⟨⟨[116,114,117,101]⟩⟩)||(decide (s=⟨⟨[102,97,105,108]⟩⟩)||(decide (s=⟨⟨[105,115]⟩⟩)||(decide (s=⟨⟨[105,110,116]⟩⟩)||decide (s=⟨⟨[103,114,111,117,110,100]⟩⟩)))))
theorem Cc(s:ByteArray):Fun Tryz.prog 149 [.str s] (.bool (HO s)):=by
 refine Fun.of (rK (by simp) ?_) rfl rfl
 conv=>whnf
 repeat' (first|(refine gC ?_;first|refine gD (cI ?_)|refine ak.dec (λa=>?_) (λa=>?_))|refine ag.nrm ?_)<;>conv=>whnf
 all_goals (simp[HO, *])
theorem C8(s:ByteArray):∀(f pos:Nat),s.size<=pos+f->(Lib.idxFuncFrom mw true s f pos<0↔∀i,pos<=i->i<s.size->cg (s.get! i).toNat≠0)
 |0,pos,h=>⟨λ_ i m c=>by omega,λ_=>by rw[Lib.idxFuncFrom];decide⟩
 |f+1,pos,h=>by
  rw[Lib.idxFuncFrom]
  by_cases hp:pos<s.size
  .rw [if_pos hp];have l:=Lib.decode_at s pos;rcases Lib.decodeN_cases (s.size-pos) (s.get! pos).toNat (s.get! (pos+1)).toNat (s.get! (pos+2)).toNat (s.get! (pos+3)).toNat with ⟨m,c⟩|c
   .rw [l,c]
    by_cases b:cg (s.get! pos).toNat=0
    .have hb:mw (s.get! pos).toNat=true:=by unfold mw;rw[decide_eq_true b,Bool.or_true]
     rw[if_pos hb];exact⟨λe=>by omega,λe=>absurd b (e pos (zG _) hp)⟩
    .have hle:¬122<(s.get! pos).toNat:=by
      intro n;apply b;unfold cg;rw[if_neg (by omega),if_neg (by omega),if_neg (by omega)]
     have hb:mw (s.get! pos).toNat=false:=by unfold mw;rw[decide_eq_false hle,decide_eq_false b];rfl
     rw[if_neg (by rw[hb];decide),C8 s f (pos+1) (by omega)]
     refine⟨λe i g k=>?_,λe i g k=>e i (by omega) k⟩
     rcases Nat.eq_or_lt_of_le g with d|d
     .rw [<-d];exact b
     .exact e i d k
   .have hr:128<=(Utf8.decode s pos).1/\¬(s.get! pos).toNat<128\/(s.get! pos).toNat<128:=by
     by_cases hb:(s.get! pos).toNat<128
     .exact .inr hb
     .refine .inl ⟨?_,hb⟩;rw[l];rcases c with ⟨_,_,_,d,a⟩|⟨_,_,_,_,d,a⟩|⟨a,_⟩|a
      .rw [a];exact d
      .rw [a];show 128<=_;omega
      .omega
      .rw [a];decide
    rcases hr with ⟨hr,hb⟩|hb
    .have j:mw (Utf8.decode s pos).1=true:=by unfold mw;rw[decide_eq_true (by omega:122<_)];rfl
     rw[if_pos j];have b:cg (s.get! pos).toNat=0:=by unfold cg;rw[if_neg (by omega),if_neg (by omega),if_neg (by omega)]
     exact⟨λe=>by omega,λe=>absurd b (e pos (zG _) hp)⟩
    .exfalso;have:Lib.decodeN (s.size-pos) (s.get! pos).toNat (s.get! (pos+1)).toNat (s.get! (pos+2)).toNat (s.get! (pos+3)).toNat=((s.get! pos).toNat,1):=by unfold Lib.decodeN;rw[if_pos hb]
     rw[this] at c;rcases c with ⟨g,_⟩|⟨g,_⟩|⟨g,_⟩|a
     .omega
     .omega
     .dsimp only at g;omega
     .have:=congrArg Prod.fst a;simp only at this;omega
  .rw [if_neg hp];exact⟨λ_ i m c=>by omega,λ_=>by decide⟩
def oR(s:ByteArray):Bool:=decide (1<=s.size/\s.size<=40/\∀i,i<s.size->cg (s.get! i).toNat≠0)
theorem Dg(s:ByteArray){i:Nat}(h:i+1<s.size):(s.extract 1 s.size).get! i=s.get! (i+1):=by
 show (s.extract 1 s.size).data[i]! =s.data[i+1]!;have c:i+1<s.data.size:=h;have a:(s.extract 1 s.size).data=s.data.extract 1 s.size:=by simp
 have b:i<(s.data.extract 1 s.size).size:=by
  rw[Array.size_extract];show i<min s.data.size s.data.size-1;omega
 rw[a,getElem!_pos s.data (i+1) c,getElem!_pos _ i b,Array.getElem_extract];congr 1;omega
theorem I3(s:ByteArray):mF s=(oR s&&decide (cg (s.get! 0).toNat=1)):=by
 unfold mF oR;rw[Bool.eq_iff_iff];simp only[zD,decide_eq_true_eq];have b:(s.extract 1 s.size).size=s.size-1:=by simp
 rw[show Lib.idxFunc mw true (s.extract 1 s.size)=Lib.idxFuncFrom mw true (s.extract 1 s.size) (s.extract 1 s.size).size 0 from rfl,C8 _ _ 0 (by omega),b]
 constructor
 .rintro ⟨⟨e,d⟩,a,c⟩;refine⟨⟨e,d,λi f=>?_⟩,a⟩
  cases i with
  |zero=>rw[a];decide
  |succ i=>
   rw[<-Dg s f];exact c i (zJ _) (by omega)
 .rintro ⟨⟨e,d,c⟩,a⟩;refine⟨⟨e,d⟩,a,λi _ f=>?_⟩;rw[Dg s (by omega)]
  exact c (i+1) (by omega)
theorem Lx(s:ByteArray):Fun Tryz.prog 148 [.str s,.int .u8 1] (.bool (mF s)):=by
 refine Fun.GG (λM σ n=>.flat (.bool _)) λM σ n w args e a b=>?_
 obtain⟨v1,v2,rfl⟩:∃v1 v2,args=[v1,v2]:=by
  match args,a with
  |[v1,v2],_=>exact⟨v1,v2,rfl⟩
 have d:=b 0 (by simp) v1 rfl
 have c:=b 1 (by simp) v2 rfl
 simp only[ZQ,Zg] at d c;obtain⟨rfl,hs⟩:=d.cK;obtain rfl:=c.aK;exact I1 s (by unfold lim at hs;omega) w
def cZ(s:ByteArray):Bool:=mF s&&!HO s
theorem uq(s:ByteArray):Fun Tryz.prog 95 [.str s] (.bool (cZ s)):=by
 refine Fun.of (w6 (by simp) ?_) rfl rfl
 conv=>whnf
 repeat' (first|(refine gF ?_;first|refine ae.fn (Lx _) ?_|refine ae.fn (Cc _) ?_)|(refine gC ?_;first|refine cYa ?_|refine cNa ?_|refine ak.any (λa=>?_) (λa=>?_))|refine ag.nrm ?_)<;>conv=>whnf
 all_goals (simp[cZ, *])
def eu(s:ByteArray):Bool:=decide (s=⟨⟨[43]⟩⟩)||(decide (s=⟨⟨[45]⟩⟩)||(decide (s=⟨⟨[42]⟩⟩)||(decide (s=⟨⟨[47]⟩⟩)||decide (s=⟨⟨[37]⟩⟩))))
theorem GF{s:ByteArray}(h:¬s.size=1):eu s=false:=by
 unfold eu;rw[decide_eq_false (by rintro rfl;exact h rfl),decide_eq_false (by rintro rfl;exact h rfl),decide_eq_false (by rintro rfl;exact h rfl),decide_eq_false (by rintro rfl;exact h rfl),decide_eq_false (by rintro rfl;exact h rfl)]
 rfl
theorem JQ(c:UInt8):decide (0<=Lib.indexByte (⟨⟨[43,45,42,47,37]⟩⟩:ByteArray).data.toList c)=eu ⟨⟨[c]⟩⟩:=by
 have e:∀d:UInt8,decide ((⟨⟨[c]⟩⟩:ByteArray)=⟨⟨[d]⟩⟩)=decide (c=d):=λd=>by rw[decide_eq_decide];simp
 unfold eu;rw[e,e,e,e,e];simp only[Lib.indexByte]
 by_cases j:c=43
 .subst j;decide
 .by_cases i:c=45
  .subst i;decide
  .by_cases g:c=42
   .subst g;decide
   .by_cases b:c=47
    .subst b;decide
    .by_cases a:c=37
     .subst a;decide
     .have f:∀d:UInt8,¬c=d->(d==c)=false:=λd h=>by rw[beq_eq_false_iff_ne];exact λe=>h e.symm
      simp[j,i,g,b,a,f 43 j,f 45 i,f 42 g,f 47 b,f 37 a]
theorem LY(s:ByteArray):Fun Tryz.prog 200 [.str s] (.bool (eu s)):=by
 by_cases a:s.size=1
 .obtain ⟨c,rfl⟩:∃c,s=⟨⟨[c]⟩⟩:=by
   obtain⟨⟨l⟩⟩:=s
   match l,a with
   |[c],_=>exact⟨c,rfl⟩
  refine Fun.of (ld (by simp) ?_) rfl rfl
  conv=>whnf
  repeat' (first|refine gF (ae.fn (ua _ _) ?_)|refine gC (gD (cI ?_))|refine ag.nrm ?_)<;>conv=>whnf
  all_goals (refine congrArg AV.bool ?_;exact JQ c)
 .refine Fun.of (ld (by simp) ?_) rfl rfl
  conv=>whnf
  repeat' (first|refine gC (gD (cJ ?_))|refine ag.nrm ?_)<;>conv=>whnf
  all_goals (refine congrArg AV.bool ?_;exact(GF a).symm)
theorem vj(c:Nat):Fun Tryz.prog 112 [.int .u8 (c:Int)] (.bool (decide (97<=c/\c<=122))):=by
 refine Fun.of (kx (by simp) ?_) rfl rfl
 conv=>whnf
 repeat' (first|(refine gC ?_;first|(refine gD ?_;first|refine cI ?_|refine cJ ?_)|refine ak.le (λa=>?_) (λa=>?_))|refine ag.nrm ?_)<;>conv=>whnf
 all_goals (refine congrArg AV.bool ?_;first|rfl|(rw[decide_eq_decide];omega)|(symm;rw[decide_eq_true_iff];omega)|(symm;rw[decide_eq_false_iff_not];omega))
theorem BL(c:Nat):Fun Tryz.prog 162 [.int .u8 (c:Int)] (.bool (decide (65<=c/\c<=90))):=by
 refine Fun.of (kv (by simp) ?_) rfl rfl
 conv=>whnf
 repeat' (first|(refine gC ?_;first|(refine gD ?_;first|refine cI ?_|refine cJ ?_)|refine ak.le (λa=>?_) (λa=>?_))|refine ag.nrm ?_)<;>conv=>whnf
 all_goals (refine congrArg AV.bool ?_;first|rfl|(rw[decide_eq_decide];omega)|(symm;rw[decide_eq_true_iff];omega)|(symm;rw[decide_eq_false_iff_not];omega))
theorem Ap(s:ByteArray):Fun Tryz.prog 113 [.str s] (.bool (HO s)):=by
 refine Fun.of (gZ (by simp) ?_) rfl rfl
 conv=>whnf
 repeat' (first|(refine gC ?_;first|refine cY ?_|(refine gD ?_;first|refine cI ?_|refine cJ ?_)|refine ak.dec (λa=>?_) (λa=>?_))|refine ag.nrm ?_)<;>conv=>whnf
 all_goals (simp[HO, *])
theorem JR(s:ByteArray):Fun Tryz.prog 236 [.str s] (.bool (eu s)):=by
 refine Fun.of (hG (by simp) ?_) rfl rfl
 conv=>whnf
 repeat' (first|(refine gC ?_;first|refine cY ?_|(refine gD ?_;first|refine cI ?_|refine cJ ?_)|refine ak.dec (λa=>?_) (λa=>?_))|refine ag.nrm ?_)<;>conv=>whnf
 all_goals (simp[eu, *])
theorem GV{s:ByteArray}{j:Nat}(h:j<s.size):s[j]? =some (s.get! j):=by
 rw[getElem?_pos s j h];congr 1;exact(getElem!_pos s.data j h).symm
theorem IA(c:Nat):(cg c=0/\(¬(97<=c/\c<=122)/\¬(65<=c/\c<=90)/\¬c=95/\¬(48<=c/\c<=57)))\/(cg c≠0/\((97<=c/\c<=122)\/(65<=c/\c<=90)\/c=95\/(48<=c/\c<=57))):=by
 unfold cg
 by_cases b:97<=c/\c<=122
 .exact .inr ⟨by rw[if_pos b];decide,.inl b⟩
 .by_cases a:(65<=c/\c<=90)\/c=95
  .exact .inr ⟨by rw[if_neg b,if_pos a];decide,a.elim (λh=>.inr (.inl h)) λh=>.inr (.inr (.inl h))⟩
  .by_cases d:48<=c/\c<=57
   .exact .inr ⟨by rw[if_neg b,if_neg a,if_pos d];decide,.inr (.inr (.inr d))⟩
   .exact .inl ⟨by rw[if_neg b,if_neg a,if_neg d],b,λh=>a (.inl h),λh=>a (.inr h),d⟩
theorem BJ(s:ByteArray):Fun Tryz.prog 111 [.str s] (.bool (oR s)):=by
 refine Fun.assume rfl λl=>?_;have n:s.size<=4294967296:=nP (l (.str s) (by simp))
 refine Fun.of (lk (by simp) ?_) rfl rfl
 conv=>whnf
 skip;refine ax.by (fb:=true) (λ_ (j:Nat)=>⟨[(0,.str s),(3,.int .i64 (j:Int))],[],0⟩) (λj=>j<=s.size/\∀i,i<j->cg (s.get! i).toNat≠0) (λj=>s.size-j) 0 ⟨zJ _,λi h=>by omega⟩ ?_ ?_
 .exact aN
 .rintro j ⟨q,m⟩
  by_cases k:j<s.size
  .obtain ⟨y,g⟩:∃y,y=s.get! j:=⟨_,rfl⟩;have r:s[((j:Nat):Int).toNat]? =some y:=by rw[Zn,g];exact GV k
   have b:cg y.toNat=0->false=oR s:=λh=>by
    unfold oR;symm;rw[decide_eq_false_iff_not];rintro⟨_,_,f⟩;exact f j k (by rw[<-g];exact h)
   obtain⟨c,d⟩:∃c,c=y.toNat:=⟨_,rfl⟩;rw[<-d] at b;rcases IA c with ⟨a,p⟩|⟨a,p⟩
   .conv=>whnf
    repeat' (first|(refine gF ?_;first|refine ae.fn (vj _) ?_|refine ae.fn (BL _) ?_)|(refine gC ?_;first|refine cY ?_|refine .not ?_|(refine gD ?_;first|refine cI ?_|refine cJ ?_)|refine ak.lt (λa=>?_) (λa=>?_))|refine ag.nrm ?_|refine gIs (iS ?_))<;>conv=>whnf
    all_goals (exact congrArg AV.bool (b (by assumption)))
   .conv=>whnf
    repeat' (first|(refine gF ?_;first|refine ae.fn (vj _) ?_|refine ae.fn (BL _) ?_)|(refine gC ?_;first|refine cN ?_|refine .not ?_|(refine gD ?_;first|refine cI ?_|refine cJ ?_)|refine ak.lt (λa=>?_) (λa=>?_)|refine ak.dec (λa=>?_) (λa=>?_))|refine gW (wI ?_)|refine gIs (iS ?_))<;>conv=>whnf
    all_goals
     refine⟨j+1,⟨⟨k,λi o=>?_⟩,by omega⟩,?_⟩
     .rcases zt i j with f|f
      .exact m i f
      .obtain rfl:i=j:=by omega
       rw[<-g,<-d];assumption
     exact aN
  .have e:oR s=decide (1<=s.size/\s.size<=40):=by
    unfold oR;rw[decide_eq_decide];exact⟨λh=>⟨h.1,h.2.1⟩,λh=>⟨h.1,h.2,λi o=>m i (by omega)⟩⟩
   rw[e]
   conv=>whnf
   repeat' (first|(refine gC ?_;first|(refine gD ?_;first|refine cI ?_|refine cJ ?_)|refine ak.le (λa=>?_) (λa=>?_))|refine ag.nrm ?_)<;>conv=>whnf
   all_goals (refine congrArg AV.bool ?_;first|rfl|(rw[decide_eq_decide];omega)|(symm;rw[decide_eq_true_iff];omega)|(symm;rw[decide_eq_false_iff_not];omega))
end Go.CK
namespace Go.CK
open Go.AM Go.Proofs
theorem MD(c:Nat):decide (97<=c/\c<=122)=decide (cg c=1):=by
 rw[decide_eq_decide];unfold cg
 by_cases a:97<=c/\c<=122
 .rw [if_pos a];exact⟨λ_=>rfl,λ_=>a⟩
 .rw [if_neg a];refine⟨λh=>absurd h a,λh=>?_⟩;split at h
  .cases h
  .split at h<;>cases h
theorem oi(s:ByteArray):Fun Tryz.prog 61 [.str s] (.bool (cZ s)):=by
 have he:cZ s=(oR s&&(decide (cg (s.get! 0).toNat=1)&&!HO s)):=by rw[cZ,I3,Bool.and_assoc]
 rw[he]
 cases hw:oR s with
 |false=>
  have a:Fun Tryz.prog 111 [.str s] (.bool false):=by rw[<-hw];exact BJ s
  refine Fun.of (dK (by simp) ?_) rfl rfl
  conv=>whnf
  repeat' (first|refine gF (ae.fn (a) ?_)|refine gC (cN ?_)|refine ag.nrm ?_)<;>conv=>whnf
  all_goals rfl
 |true=>
  have a:Fun Tryz.prog 111 [.str s] (.bool true):=by rw[<-hw];exact BJ s
  have e:1<=s.size:=by unfold oR at hw;exact(of_decide_eq_true hw).1
  obtain⟨y,b⟩:∃y,y=s.get! 0:=⟨_,rfl⟩;have d:s[(0:Int).toNat]? =some y:=by rw[b];exact GV (by omega)
  rw[<-b,<-MD];refine Fun.of (dK (by simp) ?_) rfl rfl
  conv=>whnf
  repeat' (first|(refine gF ?_;first|refine ae.fn (a) ?_|refine ae.fn (vj _) ?_|refine ae.fn (Ap _) ?_)|(refine gC ?_;first|refine cY ?_|(refine gD ?_;first|refine cI ?_|refine cJ ?_)|refine ak.dec (λc=>?_) (λc=>?_))|refine ag.nrm ?_|refine gIs (iS ?_))<;>conv=>whnf
  all_goals (clear b;refine congrArg AV.bool ?_;simp[*])
mutual
def Tm.form:Tm->Bool
 |.mk k n s l=>if k=0 then decide (-2147483648<=n/\n<=2147483648/\s=⟨⟨[]⟩⟩/\l.length=0)
  else if k=1 then decide (0<=n/\n<=1048576/\s=⟨⟨[]⟩⟩/\l.length=0)
  else if k=2 then decide (n=0/\l.length<=6)&&((cZ s||(eu s&&decide (l.length=2)))&&Tm.dL l)
  else false
def Tm.dL:List Tm->Bool
 |[]=>true
 |t::r=>t.form&&Tm.dL r
end
mutual
def Tm.sz:Tm->Nat
 |.mk k _ _ l=>1+(if k=2 then Tm.szs l else 0)
def Tm.szs:List Tm->Nat
 |[]=>0
 |t::r=>t.sz+Tm.szs r
end
mutual
def Tm.dep:Tm->Nat
 |.mk k _ _ l=>(if k=2 then Tm.jr l else 0)+1
def Tm.jr:List Tm->Nat
 |[]=>0
 |t::r=>max t.dep (Tm.jr r)
end
def vB(n d:Int)(t:Tm):Bool:=t.form&&decide ((t.sz:Int)<=n/\(t.dep:Int)<=d)
def vLB(n d:Int)(l:List Tm):Bool:=Tm.dL l&&decide ((Tm.szs l:Int)<=n/\(Tm.jr l:Int)<=d)
def Tm.right(t:Tm):Bool:=vB 200 20 t
theorem nd:∀(l:List Tm) (x:Tm),Tm.szs (l++[x])=Tm.szs l+x.sz
 |[],x=>by simp[Tm.szs]
 |y::l,x=>by simp only[ze,Tm.szs,nd l x];omega
theorem jb:∀(l:List Tm) (x:Tm),Tm.dL (l++[x])=(Tm.dL l&&x.form)
 |[],x=>by simp[Tm.dL]
 |y::l,x=>by simp only[ze,Tm.dL,jb l x,Bool.and_assoc]
theorem sg:∀(l:List Tm) (x:Tm),Tm.jr (l++[x])=max (Tm.jr l) x.dep
 |[],x=>by simp[Tm.jr]
 |y::l,x=>by simp only[ze,Tm.jr,sg l x];omega
theorem pX:∀(l:List Tm) {j:Nat} {x:Tm},l[j]? =some x->Tm.szs (l.take j)+x.sz<=Tm.szs l
 |y::l,0,x,h=>by simp at h;subst h;simp only[ZK,Tm.szs];omega
 |y::l,j+1,x,h=>by
  have:=pX l (j:=j) (x:=x) (by simpa using h)
  simp only[yD,Tm.szs];omega
 |[],j,x,h=>by simp at h
theorem sa:∀{l:List Tm} {x:Tm},Tm.dL l=true->x∈l->x.form=true
 |y::l,x,h,hm=>by
  simp only[Tm.dL,zD] at h;rcases zI.1 hm with rfl|hm
  .exact h.1
  .exact sa h.2 hm
theorem Dr:∀{l:List Tm} {x:Tm},x∈l->x.dep<=Tm.jr l
 |y::l,x,hm=>by
  simp only[Tm.jr];rcases zI.1 hm with rfl|hm
  .omega
  .have:=Dr hm;omega
theorem Hm{n d:Int}{l:List Tm}{j:Nat}{x:Tm}(b:l[j]? =some x)(h:vB (n-Tm.szs (l.take j)) d x=false):vLB n d l=false:=by
 rw[Bool.eq_false_iff];intro a;unfold vLB at a;rw[zD,decide_eq_true_eq] at a;obtain⟨c,i,g⟩:=a;have hm:=zE b;have f:=pX l b;have e:=Dr hm;unfold vB at h;rw[sa c hm,za,decide_eq_false_iff_not] at h;apply h;omega
theorem yY{n d:Int}{t:Tm}(h:vB n d t=true):t.form=true/\(t.sz:Int)<=n/\(t.dep:Int)<=d:=by
 unfold vB at h;rw[zD,decide_eq_true_eq] at h;exact h
theorem z7{t:Tm}(h:¬t.kind=2):t.sz=1:=by
 obtain⟨k,i,s,l⟩:=t;simp only[Tm.kind] at h;rw[Tm.sz,if_neg h]
theorem Dt{t:Tm}(h:¬t.kind=2):t.dep=1:=by
 obtain⟨k,i,s,l⟩:=t;simp only[Tm.kind] at h;rw[Tm.dep,if_neg h]
theorem z8{t:Tm}(h:t.kind=2):t.sz=1+Tm.szs t.args:=by
 obtain⟨k,i,s,l⟩:=t;simp only[Tm.kind] at h;rw[Tm.sz,if_pos h];rfl
theorem G0{t:Tm}(h:t.kind=2):t.dep=Tm.jr t.args+1:=by
 obtain⟨k,i,s,l⟩:=t;simp only[Tm.kind] at h;rw[Tm.dep,if_pos h];rfl
theorem KK{t:Tm}(h:t.kind=0):t.form=decide (-2147483648<=t.num/\t.num<=2147483648/\t.name=⟨⟨[]⟩⟩/\t.args.length=0):=by
 obtain⟨k,i,s,l⟩:=t;simp only[Tm.kind] at h;rw[Tm.form,if_pos h];rfl
theorem KJ{t:Tm}(h:t.kind=1):t.form=decide (0<=t.num/\t.num<=1048576/\t.name=⟨⟨[]⟩⟩/\t.args.length=0):=by
 obtain⟨k,i,s,l⟩:=t;simp only[Tm.kind] at h;rw[Tm.form,if_neg (by omega),if_pos h];rfl
theorem KI{t:Tm}(h:t.kind=2):t.form=(decide (t.num=0/\t.args.length<=6)&&((cZ t.name||(eu t.name&&decide (t.args.length=2)))&&Tm.dL t.args)):=by
 obtain⟨k,i,s,l⟩:=t;simp only[Tm.kind] at h;rw[Tm.form,if_neg (by omega),if_neg (by omega),if_pos h];rfl
theorem KH{t:Tm}(c:¬t.kind=0)(b:¬t.kind=1)(a:¬t.kind=2):t.form=false:=by
 obtain⟨k,i,s,l⟩:=t;simp only[Tm.kind] at c b a;rw[Tm.form,if_neg c,if_neg b,if_neg a]
theorem Nb(t:Tm):1<=t.sz:=by obtain⟨k,i,s,l⟩:=t;rw[Tm.sz];omega
theorem MC(t:Tm):1<=t.dep:=by obtain⟨k,i,s,l⟩:=t;rw[Tm.dep];omega
theorem Ja{n d:Int}{t:Tm}(h:n<1\/d<1):vB n d t=false:=by
 have b:=Nb t;have a:=MC t;unfold vB;rw[decide_eq_false (by omega),Bool.and_false]
theorem yZ{n d:Int}{t:Tm}(h:¬t.kind=2)(a:1<=n)(b:1<=d):vB n d t=t.form:=by
 unfold vB;rw[z7 h,Dt h,decide_eq_true (by omega),Bool.and_true]
theorem M5{n d:Int}{t:Tm}(h:t.kind=2):vB n d t=(decide (t.num=0/\t.args.length<=6)&&((cZ t.name||(eu t.name&&decide (t.args.length=2)))&&vLB (n-1) (d-1) t.args)):=by
 unfold vB vLB
 have e:decide ((t.sz:Int)<=n/\(t.dep:Int)<=d)=decide ((Tm.szs t.args:Int)<=n-1/\(Tm.jr t.args:Int)<=d-1):=by
  rw[decide_eq_decide,z8 h,G0 h];omega
 rw[KI h,e,Bool.and_assoc,Bool.and_assoc]
def pS(n:Int)(b:Bool)(k:Nat)(r:AV)(bs':List Box):Prop:=r=.bool b/\∃m:Int,bs'=[.cells [.int .i64 m]]/\(b=true->m=n-k)
theorem yz{n d:Int}{t:Tm}{bs:List Box}{m:Int}(hb:bs=[.cells [.int .i64 m]])(h:vB n d t=false):pS n (vB n d t) t.sz (.bool false) bs:=⟨by rw[h],m,hb,by rw[h];intro e;cases e⟩
theorem I8{n d:Int}{t:Tm}{b:Bool}{bs:List Box}(hk:¬t.kind=2)(hb:bs=[.cells [.int .i64 (n-1)]])(h:vB n d t=b):pS n (vB n d t) t.sz (.bool b) bs:=⟨by rw[h],n-1,hb,by rw[z7 hk];intro _;rfl⟩
set_option maxHeartbeats 1000000 in
theorem F1{l:List Tm}{n d:Int}(t:0<=n/\n<=200)(w:0<=d/\d<=20)(v:l.length<=4294967296)(h:∀x∈l,∀n:Int,0<=n->n<=200->AM.Sem Tryz.prog 153 [.ptr 0 0,x.avw,.int .i64 d] [.cells [.int .i64 n]] (pS n (vB n d x) x.sz)):AM.Sem Tryz.prog 102 [.ptr 0 0,.sl .no (l.map Tm.av),.int .i64 d] [.cells [.int .i64 n]] (pS n (vLB n d l) (Tm.szs l)):=by
 refine nz (by simp) ?_
 conv=>whnf
 repeat' refine gL (.map ?_)<;>conv=>whnf
 refine ax.by (fb:=true) (λ_ (q:Nat×Int)=>⟨[(0,.ptr 0 0),(1,.sl .no (l.map Tm.av)),(2,.int .i64 d),(9,.int .i64 (l.length:Int)),(10,.int .i64 (q.1:Int))],[.cells [.int .i64 q.2]],1⟩) (λq=>q.1<=l.length/\q.2=n-Tm.szs (l.take q.1)/\0<=q.2/\vLB n d (l.take q.1)=true) (λq=>l.length-q.1) (0,n) ⟨zJ _,by simp[Tm.szs],t.1,by simp[vLB,Tm.dL,Tm.szs,Tm.jr];omega⟩ ?_ ?_
 .exact aN
 .rintro ⟨j,m⟩ ⟨s,i,o,c⟩;dsimp only at s i o c|-
  by_cases p:j<l.length
  .obtain ⟨x,k⟩:∃x,l[j]? =some x:=⟨_,zA p⟩;have f:l.take (j+1)=l.take j++[x]:=by rw[ZC,k];rfl
   have a:=h x (zE k) m o (by omega)
   conv=>whnf
   repeat' (first|refine gC (gD (cI ?_))|refine gI (gT (iA ?_)))<;>conv=>whnf
   cases hb:vB m d x with
   |false=>
    rw[hb] at a;refine ae.at [0] a rfl rfl ?_ oko ?_
    .rintro r bs' ⟨rfl,b,rfl,_⟩;exact⟨rfl,rfl,oko⟩
    rintro r bs' ⟨rfl,b,rfl,_⟩
    conv=>whnf
    repeat' (refine gC ?_;first|refine cN ?_|refine .not ?_)<;>conv=>whnf
    conv=>whnf
    repeat' refine ag.nrm ?_<;>conv=>whnf
    have:=Hm (n:=n) (d:=d) k (by rw[<-i];exact hb)
    exact⟨by rw[this],b,rfl,by rw[this];intro e;cases e⟩
   |true=>
    rw[hb] at a;refine ae.at [0] a rfl rfl ?_ oko ?_
    .rintro r bs' ⟨rfl,b,rfl,_⟩;exact⟨rfl,rfl,oko⟩
    rintro r bs' ⟨rfl,b,rfl,g⟩;have g:=g rfl;obtain⟨u,z,y⟩:=yY hb
    conv=>whnf
    repeat' (first|(refine gC ?_;first|refine cY ?_|refine .not ?_)|refine gW (wI ?_)|fail)<;>conv=>whnf
    refine⟨(j+1,b),⟨⟨p,by show b=n-Tm.szs (l.take (j+1));rw[f,nd];omega,by show 0<=b;omega,?_⟩,by show _-(j+1)<_-j;omega⟩,?_⟩
    .show vLB n d (l.take (j+1))=true;unfold vLB at c|-;rw[zD,decide_eq_true_eq] at c|-;rw[f,jb,nd,sg,c.1,u];exact⟨rfl,by omega,by omega⟩
    exact aN
  .obtain rfl:j=l.length:=by omega
   rw[zl (zG _)] at i c
   conv=>whnf
   repeat' refine gC (gD (cJ ?_))<;>conv=>whnf
   conv=>whnf
   repeat' refine ag.nrm ?_<;>conv=>whnf
   exact⟨by rw[c],m,rfl,λ_=>i⟩
set_option maxHeartbeats 1000000 in
theorem I7(t:Tm):∀n d:Int,0<=n->n<=200->0<=d->d<=20->AM.Sem Tryz.prog 153 [.ptr 0 0,t.avw,.int .i64 d] [.cells [.int .i64 n]] (pS n (vB n d t) t.sz):=by
 induction t using Tm.bA with
 |h k i s l ih=>
 intro n d O H P I;generalize D:Tm.mk k i s l=t;replace ih:∀x∈t.args,∀n d:Int,0<=n->n<=200->0<=d->d<=20->AM.Sem Tryz.prog 153 [.ptr 0 0,x.avw,.int .i64 d] [.cells [.int .i64 n]] (pS n (vB n d x) x.sz):=by subst D;exact ih
 clear D;refine Sem.assume λz _=>?_;have C:=(ox (z t.avw (by simp) rfl)).2.1
 refine lZ (by simp) ?_
 by_cases b:n<1\/d<1
 .by_cases G:n<1
  .conv=>whnf
   repeat' (first|(refine gC ?_;first|refine cY ?_|refine gD (cI ?_))|refine gW (wI ?_)|fail)<;>conv=>whnf
   refine ag.lay [some 0] oko ?_
   conv=>whnf
   repeat' refine ag.nrm ?_<;>conv=>whnf
   exact yz rfl (Ja b)
  .have J:d<1:=b.resolve_left G
   conv=>whnf
   repeat' (first|(refine gC ?_;(refine gD ?_;first|refine cI ?_|refine cJ ?_))|refine gW (wI ?_)|fail)<;>conv=>whnf
   refine ag.lay [some 0] oko ?_
   conv=>whnf
   repeat' refine ag.nrm ?_<;>conv=>whnf
   exact yz rfl (Ja b)
 .have G:¬n<1:=λe=>b (.inl e);have J:¬d<1:=λe=>b (.inr e)
  by_cases a:t.kind=2
  .rw [show pS n (vB n d t) t.sz=pS n (decide (t.num=0/\t.args.length<=6)&&((cZ t.name||(eu t.name&&decide (t.args.length=2)))&&vLB (n-1) (d-1) t.args)) t.sz by rw[M5 a]]
   by_cases B:t.num=0/\t.args.length<=6
   rotate_left
   .rw [decide_eq_false B,zw]
    by_cases A:t.num=0
    .have F:¬t.args.length<=6:=λe=>B ⟨A,e⟩
     conv=>whnf
     repeat' (first|(refine gC ?_;first|refine .not ?_|(refine gD ?_;first|refine cI ?_|refine cJ ?_))|refine gW (wI ?_)|refine gL (.map ?_))<;>conv=>whnf
     refine ag.lay [some 0] oko ?_
     conv=>whnf
     repeat' refine ag.nrm ?_<;>conv=>whnf
     exact⟨rfl,_,rfl,λe=>by cases e⟩
    .conv=>whnf
     repeat' (first|(refine gC ?_;first|refine cY ?_|refine .not ?_|(refine gD ?_;first|refine cI ?_|refine cJ ?_))|refine gW (wI ?_)|fail)<;>conv=>whnf
     refine ag.lay [some 0] oko ?_
     conv=>whnf
     repeat' refine ag.nrm ?_<;>conv=>whnf
     exact⟨rfl,_,rfl,λe=>by cases e⟩
   obtain⟨A,F⟩:=B;rw[decide_eq_true (show t.num=0/\t.args.length<=6 from ⟨A,F⟩),za];have c:=uq t.name;have f:=LY t.name
   cases u:cZ t.name with
   |true=>
    rw[u] at c;rw[Bool.true_or,za]
    conv=>whnf
    repeat' (first|refine gF (ae.fn (c) ?_)|(refine gC ?_;first|refine cY ?_|refine cN ?_|refine .not ?_|(refine gD ?_;first|refine cI ?_|refine cJ ?_))|refine gW (wI ?_)|refine gL (.map ?_))<;>conv=>whnf
    refine ae.at [0] (F1 (l:=t.args) (n:=n-1) (d:=d-1) ⟨by omega,by omega⟩ ⟨by omega,by omega⟩ C λx y m hm g=>ih x y m (d-1) hm g (by omega) (by omega)) rfl rfl ?_ oko ?_
    .rintro r bs' ⟨rfl,p,rfl,_⟩;exact⟨rfl,rfl,oko⟩
    rintro r bs' ⟨rfl,p,rfl,j⟩
    conv=>whnf
    skip;refine ag.lay [some 0] oko ?_
    conv=>whnf
    repeat' refine ag.nrm ?_<;>conv=>whnf
    exact⟨rfl,p,rfl,λe=>by rw[j e,z8 a];omega⟩
   |false=>
    rw[u] at c;rw[Bool.false_or]
    cases q:eu t.name with
    |false=>
     rw[q] at f;rw[zw,zw]
     conv=>whnf
     repeat' (first|(refine gF ?_;first|refine ae.fn (c) ?_|refine ae.fn (f) ?_)|(refine gC ?_;first|refine cN ?_|refine .not ?_|(refine gD ?_;first|refine cI ?_|refine cJ ?_))|refine gW (wI ?_)|refine gL (.map ?_))<;>conv=>whnf
     refine ag.lay [some 0] oko ?_
     conv=>whnf
     repeat' refine ag.nrm ?_<;>conv=>whnf
     exact⟨rfl,_,rfl,λe=>by cases e⟩
    |true=>
     rw[q] at f;rw[za]
     by_cases E:t.args.length=2
     .rw [decide_eq_true E,za]
      conv=>whnf
      repeat' (first|(refine gF ?_;first|refine ae.fn (c) ?_|refine ae.fn (f) ?_)|(refine gC ?_;first|refine cY ?_|refine cN ?_|refine .not ?_|(refine gD ?_;first|refine cI ?_|refine cJ ?_))|refine gW (wI ?_)|refine gL (.map ?_))<;>conv=>whnf
      refine ae.at [0] (F1 (l:=t.args) (n:=n-1) (d:=d-1) ⟨by omega,by omega⟩ ⟨by omega,by omega⟩ C λx y m hm g=>ih x y m (d-1) hm g (by omega) (by omega)) rfl rfl ?_ oko ?_
      .rintro r bs' ⟨rfl,p,rfl,_⟩;exact⟨rfl,rfl,oko⟩
      rintro r bs' ⟨rfl,p,rfl,j⟩
      conv=>whnf
      skip;refine ag.lay [some 0] oko ?_
      conv=>whnf
      repeat' refine ag.nrm ?_<;>conv=>whnf
      exact⟨rfl,p,rfl,λe=>by rw[j e,z8 a];omega⟩
     .rw [decide_eq_false E,zw]
      conv=>whnf
      repeat' (first|(refine gF ?_;first|refine ae.fn (c) ?_|refine ae.fn (f) ?_)|(refine gC ?_;first|refine cY ?_|refine cN ?_|refine .not ?_|(refine gD ?_;first|refine cI ?_|refine cJ ?_))|refine gW (wI ?_)|refine gL (.map ?_))<;>conv=>whnf
      refine ag.lay [some 0] oko ?_
      conv=>whnf
      repeat' refine ag.nrm ?_<;>conv=>whnf
      exact⟨rfl,_,rfl,λe=>by cases e⟩
  .by_cases w:t.kind=0
   .conv=>whnf
    repeat' (first|(refine gC ?_;first|refine cN ?_|(refine gD ?_;first|refine cI ?_|refine cJ ?_)|refine ak.le (λo=>?_) (λo=>?_)|refine ak.dec (λo=>?_) (λo=>?_))|refine gW (wI ?_)|refine gL (.map ?_))<;>conv=>whnf
    all_goals
     refine ag.lay [some 0] oko ?_
     conv=>whnf
     repeat' refine ag.nrm ?_<;>conv=>whnf
     refine I8 a rfl ?_;rw[yZ a (by omega) (by omega),KK w]
     first
      |(rw[decide_eq_decide];exact⟨λh=>by omega,λh=>⟨by omega,by omega,by assumption,by omega⟩⟩)
      |(rw[decide_eq_false_iff_not];rintro⟨N,M,L,K⟩;first|omega|contradiction)
      |(rw[decide_eq_true_iff];exact⟨by omega,by omega,by assumption,by omega⟩)
   .by_cases v:t.kind=1
    .conv=>whnf
     repeat' (first|(refine gC ?_;first|refine cN ?_|(refine gD ?_;first|refine cI ?_|refine cJ ?_)|refine ak.le (λo=>?_) (λo=>?_)|refine ak.dec (λo=>?_) (λo=>?_))|refine gW (wI ?_)|refine gL (.map ?_))<;>conv=>whnf
     all_goals
      refine ag.lay [some 0] oko ?_
      conv=>whnf
      repeat' refine ag.nrm ?_<;>conv=>whnf
      refine I8 a rfl ?_;rw[yZ a (by omega) (by omega),KJ v]
      first
       |(rw[decide_eq_decide];exact⟨λh=>by omega,λh=>⟨by omega,by omega,by assumption,by omega⟩⟩)
       |(rw[decide_eq_false_iff_not];rintro⟨N,M,L,K⟩;first|omega|contradiction)
       |(rw[decide_eq_true_iff];exact⟨by omega,by omega,by assumption,by omega⟩)
    .conv=>whnf
     repeat' (first|refine gC (gD (cJ ?_))|refine gW (wI ?_)|fail)<;>conv=>whnf
     refine ag.lay [some 0] oko ?_
     conv=>whnf
     repeat' refine ag.nrm ?_<;>conv=>whnf
     exact yz rfl (by rw[yZ a (by omega) (by omega),KH w v a])
end Go.CK
namespace Go.CK
open Go.AM Go.Proofs
structure Bnd where
 v:Int
 t:Tm
def Bnd.av(x:Bnd):AV:=.agg [.int .i64 x.v,.int .i64 x.t.kind,.int .i64 x.t.num,.str x.t.name,.sl .no (x.t.args.map Tm.av)]
theorem fc:∀{l:List Tm} {x:Tm},x∈l->x.nodes<=Tm.aA l
 |y::l,x,h=>by
  simp only[Tm.aA];rcases zI.1 h with rfl|h
  .omega
  .have:=fc h;omega
theorem Gm:∀{l:List Tm} {x:Tm},x∈l->x.sz<=Tm.szs l
 |y::l,x,hm=>by
  simp only[Tm.szs];rcases zI.1 hm with rfl|hm
  .omega
  .have:=Gm hm;omega
theorem Tm.lx(t:Tm):1<=t.nodes:=by
 cases t;simp only[Tm.nodes];omega
theorem cG:∀(l:List Tm),l.length<=Tm.aA l
 |[]=>zJ _
 |t::r=>by have:=cG r;have:=t.lx;simp only[Tm.aA,zX];omega
open Go.AM Go.Proofs
def aX:List Bnd->Int->Option Tm
 |[],_=>none
 |x::l,v=>if x.v=v then some x.t else aX l v
mutual
theorem Jo:∀t:Tm,t.sz<=t.nodes
 |.mk k n s l=>by
  have:=og l;simp only[Tm.sz,Tm.nodes];split<;>omega
theorem og:∀l:List Tm,Tm.szs l<=Tm.aA l
 |[]=>zG _
 |t::r=>by
  have:=Jo t;have:=og r;simp only[Tm.szs,Tm.aA];omega
end
mutual
theorem Is:∀t:Tm,t.dep<=t.nodes
 |.mk k n s l=>by
  have:=pJ l;simp only[Tm.dep,Tm.nodes];split<;>omega
theorem pJ:∀l:List Tm,Tm.jr l<=Tm.aA l
 |[]=>zG _
 |t::r=>by
  have:=Is t;have:=pJ r;simp only[Tm.jr,Tm.aA];omega
end
theorem BV(t:Tm):t.nodes<=1000000000->Fun Tryz.prog 185 [t.avw] (.int .i64 (t.sz:Int)):=by
 induction t using Tm.bA with
 |h k i s l ih=>
 intro r;generalize g:Tm.mk k i s l=t at r|-;replace ih:∀x∈t.args,x.nodes<=1000000000->Fun Tryz.prog 185 [x.avw] (.int .i64 (x.sz:Int)):=by subst g;exact ih
 have q:Tm.aA t.args+1<=t.nodes:=by subst g;simp only[Tm.nodes,Tm.args];omega
 clear g
 have f:t.sz=1+Tm.szs t.use:=by
  unfold Tm.use
  by_cases d:t.kind=2
  .rw [if_pos d,z8 d]
  .rw [if_neg d,z7 d];rfl
 have c:∀x∈t.use,x∈t.args:=λx a=>by unfold Tm.use at a;split at a;exact a;cases a
 have o:Tm.aA t.use<=Tm.aA t.args:=by unfold Tm.use;split;exact zG _;exact zJ _
 have hlen:=cG t.use;have m:=og t.use;rw[f];refine Fun.of (lj (by simp) ?_) rfl rfl
 conv=>whnf
 repeat' refine gF (ae.fn (iw) ?_)<;>conv=>whnf
 refine ax.by (fb:=true) (λ_ (j:Nat)=>⟨[(3,.int .i64 ((1+Tm.szs (t.use.take j):Nat):Int)),(4,.sl .no (t.use.map Tm.av)),(5,.int .i64 (j:Int))],[],0⟩) (λj=>j<=t.use.length) (λj=>t.use.length-j) 0 (zJ _) ?_ ?_
 .rw [ZK];refine al.lay [] oko ?_
  conv=>whnf
  refine al.at_ ?_ rfl
  conv=>whnf
  refine And.intro ?_ ?_<;>conv=>whnf
  all_goals repeat' (first|(refine gV ?_;first|refine vE ?_|refine vI ?_|(refine WkN.norm ?_ ?_;(focus (simp[AV.norm,AV.ay,Tm.szs,Tm.jr];done))))|exact True.intro)<;>conv=>whnf
 .rintro j u
  by_cases n:j<t.use.length
  .obtain ⟨x,a⟩:∃x,t.use[j]? =some x:=⟨_,zA n⟩;have e:t.use.take (j+1)=t.use.take j++[x]:=by rw[ZC,a];rfl
   have p:=pX t.use a;have hm:=fc (zE a);have b:=ih x (c x (zE a)) (by omega)
   conv=>whnf
   repeat' (first|refine gF (ae.fn (b) ?_)|refine gC (gD (cI ?_))|refine gW (wI ?_)|refine gL (.map ?_)|refine gI (gT (iA ?_)))<;>conv=>whnf
   refine⟨j+1,⟨n,by omega⟩,?_⟩
   rw[e,nd];exact aN
  .obtain rfl:j=t.use.length:=by omega
   rw[zl (zG _)]
   conv=>whnf
   repeat' (first|refine gC (gD (cJ ?_))|refine gL (.map ?_)|refine ag.nrm ?_)<;>conv=>whnf
theorem Ir(t:Tm):t.nodes<=1000000000->Fun Tryz.prog 211 [t.avw] (.int .i64 (t.dep:Int)):=by
 induction t using Tm.bA with
 |h k i s l ih=>
 intro q;generalize g:Tm.mk k i s l=t at q|-;replace ih:∀x∈t.args,x.nodes<=1000000000->Fun Tryz.prog 211 [x.avw] (.int .i64 (x.dep:Int)):=by subst g;exact ih
 have o:Tm.aA t.args+1<=t.nodes:=by subst g;simp only[Tm.nodes,Tm.args];omega
 clear g
 have f:t.dep=Tm.jr t.use+1:=by
  unfold Tm.use
  by_cases d:t.kind=2
  .rw [if_pos d,G0 d]
  .rw [if_neg d,Dt d];rfl
 have c:∀x∈t.use,x∈t.args:=λx a=>by unfold Tm.use at a;split at a;exact a;cases a
 have n:Tm.aA t.use<=Tm.aA t.args:=by unfold Tm.use;split;exact zG _;exact zJ _
 have hlen:=cG t.use;have p:Tm.jr t.use<=Tm.aA t.use:=pJ t.use;rw[f];refine Fun.of (kr (by simp) ?_) rfl rfl
 conv=>whnf
 repeat' refine gF (ae.fn (iw) ?_)<;>conv=>whnf
 refine ax.by (fb:=true) (λ_ (j:Nat)=>⟨[(3,.int .i64 ((Tm.jr (t.use.take j):Nat):Int)),(4,.sl .no (t.use.map Tm.av)),(5,.int .i64 (j:Int))],[],0⟩) (λj=>j<=t.use.length) (λj=>t.use.length-j) 0 (zJ _) ?_ ?_
 .rw [ZK];refine al.lay [] oko ?_
  conv=>whnf
  refine al.at_ ?_ rfl
  conv=>whnf
  refine And.intro ?_ ?_<;>conv=>whnf
  all_goals repeat' (first|(refine gV ?_;first|refine vE ?_|refine vI ?_|(refine WkN.norm ?_ ?_;(focus (simp[AV.norm,AV.ay,Tm.szs,Tm.jr];done))))|exact True.intro)<;>conv=>whnf
 .rintro j r
  by_cases m:j<t.use.length
  .obtain ⟨x,a⟩:∃x,t.use[j]? =some x:=⟨_,zA m⟩;have e:t.use.take (j+1)=t.use.take j++[x]:=by rw[ZC,a];rfl
   have hm:=fc (zE a);have b:=ih x (c x (zE a)) (by omega)
   conv=>whnf
   repeat' (first|refine gF (ae.fn (b) ?_)|refine gC (gD (cI ?_))|refine gW (wI ?_)|refine gL (.map ?_)|refine gI (gT (iA ?_)))<;>conv=>whnf
   refine⟨j+1,⟨m,by omega⟩,?_⟩
   rw[e,sg];exact aN
  .obtain rfl:j=t.use.length:=by omega
   rw[zl (zG _)]
   conv=>whnf
   repeat' (first|refine gC (gD (cJ ?_))|refine gW (wI ?_)|refine gL (.map ?_)|refine ag.nrm ?_)<;>conv=>whnf
   rfl
theorem nQ{l:List Tm}{x:Tm}(h:x∈l)(a:x.form=false):Tm.dL l=false:=by
 rw[Bool.eq_false_iff];intro e;rw[sa e h] at a;cases a
set_option maxHeartbeats 1000000 in
theorem KL(t:Tm):Fun Tryz.prog 210 [t.avw] (.bool t.form):=by
 induction t using Tm.bA with
 |h k i s l ih=>
 generalize C:Tm.mk k i s l=t;replace ih:∀x∈t.args,Fun Tryz.prog 210 [x.avw] (.bool x.form):=by subst C;exact ih
 clear C;refine Fun.assume rfl λA=>?_;have J:=(ox (A t.avw (by simp))).2.1
 by_cases u:t.kind=2
 .rw [KI u];have d:=JR t.name;have f:=oi t.name
  by_cases E:t.num=0
  rotate_left
  .rw [decide_eq_false (λe=>E e.1),zw];cases c:eu t.name<;>rw[c] at d
   all_goals
    refine Fun.of (aH (by simp) ?_) rfl rfl
    conv=>whnf
    repeat' (first|refine gF (ae.fn (d) ?_)|(refine gC ?_;first|refine cY ?_|refine cN ?_|refine .not ?_|(refine gD ?_;first|refine cI ?_|refine cJ ?_))|refine gL (.map ?_)|refine ag.nrm ?_)<;>conv=>whnf
    try rfl
  by_cases D:t.args.length<=6
  .rw [decide_eq_true (show t.num=0/\t.args.length<=6 from ⟨E,D⟩),za]
   by_cases o:eu t.name=true/\t.args.length=2
   .obtain ⟨c,y⟩:=o;rw[c,decide_eq_true y,za,Bool.or_true,za];rw[c] at d;refine Fun.of (aH (by simp) ?_) rfl rfl
    conv=>whnf
    repeat' (first|refine gF (ae.fn (d) ?_)|(refine gC ?_;first|refine cY ?_|refine cN ?_|refine .not ?_|(refine gD ?_;first|refine cI ?_|refine cJ ?_))|refine gL (.map ?_))<;>conv=>whnf
    refine ax.by (fb:=true) (λ_ (j:Nat)=>⟨[(1,.ptr 0 0),(4,.int .i64 (j:Int))],[.cells [.int .i64 t.kind,.int .i64 t.num,.str t.name,.sl .no (t.args.map Tm.av)]],0⟩) (λj=>j<=t.args.length/\Tm.dL (t.args.take j)=true) (λj=>t.args.length-j) 0 ⟨zJ _,rfl⟩ ?_ ?_
    .exact aN
    .rintro j ⟨B,g⟩
     by_cases q:j<t.args.length
     .obtain ⟨x,m⟩:∃x,t.args[j]? =some x:=⟨_,zA q⟩;have n:t.args.take (j+1)=t.args.take j++[x]:=by rw[ZC,m];rfl
      have a:=ih x (zE m)
      cases b:x.form with
      |false=>
       rw[b] at a
       conv=>whnf
       repeat' (first|refine gF (ae.fn (a) ?_)|(refine gC ?_;first|refine cN ?_|refine .not ?_|refine gD (cI ?_))|refine gL (.map ?_)|refine gI (gT (iA ?_))|refine ag.nrm ?_)<;>conv=>whnf
       exact congrArg AV.bool (nQ (zE m) b).symm
      |true=>
       rw[b] at a
       conv=>whnf
       repeat' (first|refine gF (ae.fn (a) ?_)|(refine gC ?_;first|refine cY ?_|refine .not ?_|refine gD (cI ?_))|refine gW (wI ?_)|refine gL (.map ?_)|refine gI (gT (iA ?_)))<;>conv=>whnf
       refine⟨j+1,⟨⟨q,by rw[n,jb,g,b];rfl⟩,by omega⟩,?_⟩
       exact aN
     .obtain rfl:j=t.args.length:=by omega
      rw[zl (zG _)] at g
      conv=>whnf
      repeat' (first|refine gC (gD (cJ ?_))|refine gL (.map ?_)|refine ag.nrm ?_)<;>conv=>whnf
      exact congrArg AV.bool g.symm
   .have z:(eu t.name&&decide (t.args.length=2))=false:=by
     rw[Bool.eq_false_iff];intro e;rw[zD,decide_eq_true_eq] at e;exact o e
    rw[z,Bool.or_false]
    cases p:cZ t.name with
    |false=>
     rw[p] at f;rw[zw]
     cases c:eu t.name with
     |false=>
      rw[c] at d;refine Fun.of (aH (by simp) ?_) rfl rfl
      conv=>whnf
      repeat' (first|(refine gF ?_;first|refine ae.fn (d) ?_|refine ae.fn (f) ?_)|(refine gC ?_;first|refine cY ?_|refine cN ?_|refine .not ?_|(refine gD ?_;first|refine cI ?_|refine cJ ?_))|refine ag.nrm ?_)<;>conv=>whnf
     |true=>
      rw[c] at d;have y:¬t.args.length=2:=λe=>o ⟨c,e⟩;refine Fun.of (aH (by simp) ?_) rfl rfl
      conv=>whnf
      repeat' (first|(refine gF ?_;first|refine ae.fn (d) ?_|refine ae.fn (f) ?_)|(refine gC ?_;first|refine cY ?_|refine cN ?_|refine .not ?_|(refine gD ?_;first|refine cI ?_|refine cJ ?_))|refine gL (.map ?_)|refine ag.nrm ?_)<;>conv=>whnf
    |true=>
     rw[p] at f;rw[za]
     cases c:eu t.name with
     |false=>
      rw[c] at d;refine Fun.of (aH (by simp) ?_) rfl rfl
      conv=>whnf
      repeat' (first|(refine gF ?_;first|refine ae.fn (d) ?_|refine ae.fn (f) ?_)|(refine gC ?_;first|refine cY ?_|refine cN ?_|refine .not ?_|(refine gD ?_;first|refine cI ?_|refine cJ ?_))|refine gL (.map ?_))<;>conv=>whnf
      refine ax.by (fb:=true) (λ_ (j:Nat)=>⟨[(1,.ptr 0 0),(4,.int .i64 (j:Int))],[.cells [.int .i64 t.kind,.int .i64 t.num,.str t.name,.sl .no (t.args.map Tm.av)]],0⟩) (λj=>j<=t.args.length/\Tm.dL (t.args.take j)=true) (λj=>t.args.length-j) 0 ⟨zJ _,rfl⟩ ?_ ?_
      .exact aN
      .rintro j ⟨B,g⟩
       by_cases q:j<t.args.length
       .obtain ⟨x,m⟩:∃x,t.args[j]? =some x:=⟨_,zA q⟩;have n:t.args.take (j+1)=t.args.take j++[x]:=by rw[ZC,m];rfl
        have a:=ih x (zE m)
        cases b:x.form with
        |false=>
         rw[b] at a
         conv=>whnf
         repeat' (first|refine gF (ae.fn (a) ?_)|(refine gC ?_;first|refine cN ?_|refine .not ?_|refine gD (cI ?_))|refine gL (.map ?_)|refine gI (gT (iA ?_))|refine ag.nrm ?_)<;>conv=>whnf
         exact congrArg AV.bool (nQ (zE m) b).symm
        |true=>
         rw[b] at a
         conv=>whnf
         repeat' (first|refine gF (ae.fn (a) ?_)|(refine gC ?_;first|refine cY ?_|refine .not ?_|refine gD (cI ?_))|refine gW (wI ?_)|refine gL (.map ?_)|refine gI (gT (iA ?_)))<;>conv=>whnf
         refine⟨j+1,⟨⟨q,by rw[n,jb,g,b];rfl⟩,by omega⟩,?_⟩
         exact aN
       .obtain rfl:j=t.args.length:=by omega
        rw[zl (zG _)] at g
        conv=>whnf
        repeat' (first|refine gC (gD (cJ ?_))|refine gL (.map ?_)|refine ag.nrm ?_)<;>conv=>whnf
        exact congrArg AV.bool g.symm
     |true=>
      rw[c] at d;have y:¬t.args.length=2:=λe=>o ⟨c,e⟩;refine Fun.of (aH (by simp) ?_) rfl rfl
      conv=>whnf
      repeat' (first|(refine gF ?_;first|refine ae.fn (d) ?_|refine ae.fn (f) ?_)|(refine gC ?_;first|refine cY ?_|refine .not ?_|(refine gD ?_;first|refine cI ?_|refine cJ ?_))|refine gL (.map ?_))<;>conv=>whnf
      refine ax.by (fb:=true) (λ_ (j:Nat)=>⟨[(1,.ptr 0 0),(4,.int .i64 (j:Int))],[.cells [.int .i64 t.kind,.int .i64 t.num,.str t.name,.sl .no (t.args.map Tm.av)]],0⟩) (λj=>j<=t.args.length/\Tm.dL (t.args.take j)=true) (λj=>t.args.length-j) 0 ⟨zJ _,rfl⟩ ?_ ?_
      .exact aN
      .rintro j ⟨B,g⟩
       by_cases q:j<t.args.length
       .obtain ⟨x,m⟩:∃x,t.args[j]? =some x:=⟨_,zA q⟩;have n:t.args.take (j+1)=t.args.take j++[x]:=by rw[ZC,m];rfl
        have a:=ih x (zE m)
        cases b:x.form with
        |false=>
         rw[b] at a
         conv=>whnf
         repeat' (first|refine gF (ae.fn (a) ?_)|(refine gC ?_;first|refine cN ?_|refine .not ?_|refine gD (cI ?_))|refine gL (.map ?_)|refine gI (gT (iA ?_))|refine ag.nrm ?_)<;>conv=>whnf
         exact congrArg AV.bool (nQ (zE m) b).symm
        |true=>
         rw[b] at a
         conv=>whnf
         repeat' (first|refine gF (ae.fn (a) ?_)|(refine gC ?_;first|refine cY ?_|refine .not ?_|refine gD (cI ?_))|refine gW (wI ?_)|refine gL (.map ?_)|refine gI (gT (iA ?_)))<;>conv=>whnf
         refine⟨j+1,⟨⟨q,by rw[n,jb,g,b];rfl⟩,by omega⟩,?_⟩
         exact aN
       .obtain rfl:j=t.args.length:=by omega
        rw[zl (zG _)] at g
        conv=>whnf
        repeat' (first|refine gC (gD (cJ ?_))|refine gL (.map ?_)|refine ag.nrm ?_)<;>conv=>whnf
        exact congrArg AV.bool g.symm
  .rw [decide_eq_false (λe=>D e.2),zw];have y:¬t.args.length=2:=by omega
   cases p:cZ t.name<;>rw[p] at f<;>cases c:eu t.name<;>rw[c] at d
   all_goals
    refine Fun.of (aH (by simp) ?_) rfl rfl
    conv=>whnf
    repeat' (first|(refine gF ?_;first|refine ae.fn (d) ?_|refine ae.fn (f) ?_)|(refine gC ?_;first|refine cY ?_|refine cN ?_|refine .not ?_|(refine gD ?_;first|refine cI ?_|refine cJ ?_))|refine gL (.map ?_)|refine ag.nrm ?_)<;>conv=>whnf
    try rfl
 .by_cases w:t.kind=0
  .rw [KK w];refine Fun.of (aH (by simp) ?_) rfl rfl
   conv=>whnf
   repeat' (first|(refine gC ?_;first|refine cN ?_|(refine gD ?_;first|refine cI ?_|refine cJ ?_)|refine ak.le (λr=>?_) (λr=>?_)|refine ak.dec (λr=>?_) (λr=>?_))|refine gL (.map ?_)|refine ag.nrm ?_)<;>conv=>whnf
   all_goals
    refine congrArg AV.bool ?_;symm
    first
     |(rw[decide_eq_decide];exact⟨λh=>by omega,λh=>⟨by omega,by omega,by assumption,by omega⟩⟩)
     |(rw[decide_eq_decide];exact⟨λ⟨_,_,_,h⟩=>by omega,λh=>⟨by omega,by omega,by assumption,by omega⟩⟩)
     |(rw[decide_eq_false_iff_not];rintro⟨I,H,G,F⟩;first|omega|contradiction)
     |(rw[decide_eq_true_iff];exact⟨by omega,by omega,by assumption,by omega⟩)
  .by_cases v:t.kind=1
   .rw [KJ v];refine Fun.of (aH (by simp) ?_) rfl rfl
    conv=>whnf
    repeat' (first|(refine gC ?_;first|refine cN ?_|(refine gD ?_;first|refine cI ?_|refine cJ ?_)|refine ak.le (λr=>?_) (λr=>?_)|refine ak.dec (λr=>?_) (λr=>?_))|refine gL (.map ?_)|refine ag.nrm ?_)<;>conv=>whnf
    all_goals
     refine congrArg AV.bool ?_;symm
     first
      |(rw[decide_eq_decide];exact⟨λh=>by omega,λh=>⟨by omega,by omega,by assumption,by omega⟩⟩)
      |(rw[decide_eq_decide];exact⟨λ⟨_,_,_,h⟩=>by omega,λh=>⟨by omega,by omega,by assumption,by omega⟩⟩)
      |(rw[decide_eq_false_iff_not];rintro⟨I,H,G,F⟩;first|omega|contradiction)
      |(rw[decide_eq_true_iff];exact⟨by omega,by omega,by assumption,by omega⟩)
   .rw [KH w v u];refine Fun.of (aH (by simp) ?_) rfl rfl
    conv=>whnf
    repeat' (first|refine gC (gD (cJ ?_))|refine ag.nrm ?_)<;>conv=>whnf
theorem HJ(t:Tm)(a:t.nodes<=1000000000):Fun Tryz.prog 184 [t.avw] (.bool t.right):=by
 have b:=KL t;have f:=BV t a;have e:=Ir t a
 have he:t.right=(t.form&&(decide ((t.sz:Int)<=200)&&decide ((t.dep:Int)<=20))):=by
  unfold Tm.right vB;rw[Bool.decide_and]
 rw[he];cases c:t.form<;>rw[c] at b
 all_goals
  refine Fun.of (kq (by simp) ?_) rfl rfl
  conv=>whnf
  repeat' (first|(refine gF ?_;first|refine ae.fn (b) ?_|refine ae.fn (f) ?_|refine ae.fn (e) ?_)|(refine gC ?_;first|refine cY ?_|refine cN ?_|(refine gD ?_;first|refine cI ?_|refine cJ ?_)|refine ak.le (λd=>?_) (λd=>?_))|refine ag.nrm ?_)<;>conv=>whnf
  all_goals (first|rfl|(refine congrArg AV.bool ?_;first|(simp[*];done)|(simp[*];omega)))
end Go.CK
