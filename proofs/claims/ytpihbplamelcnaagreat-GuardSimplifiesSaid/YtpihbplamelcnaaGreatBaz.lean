/-
  Texts of this aZ joined (wip/gen/bundle.py),those declarations only that are needed:UnP UnV UnG. By an AI agent.
-/
import Derived.Test.YtpihbplamelcnaaGreatBay
import Derived.Lib.SpaceUEq
set_option linter.unusedSimpArgs false
set_option linter.unusedVariables false
set_option maxRecDepth 100000
namespace Go.CK
open Go.AM Go.Proofs
def I8(s:ByteArray):Bool:=decide (s=⟨⟨[99,111,110,115,116,114,97,105,110,116]⟩⟩)||(decide (s=⟨⟨[116,114,117,101]⟩⟩)||(decide (s=⟨⟨[102,97,105,108]⟩⟩)||(decide (s=⟨⟨[105,115]⟩⟩)||(decide (s=⟨⟨[105,110,116]⟩⟩)||decide (s=⟨⟨[103,114,111,117,110,100]⟩⟩)))))
theorem DQ(s:ByteArray):Fun Tryz.prog 128 [.str s] (.bool (I8 s)):=by
 refine Fun.of (tq (by simp) ?_) rfl rfl
 conv=>whnf
 repeat' (first|(refine gC ?_;first|refine gD (cI ?_)|refine al.dec (λhc=>?_) (λhc=>?_))|refine ae.nrm ?_)<;>conv=>whnf
 all_goals (simp[I8, *])
theorem EH(s:ByteArray):∀(f pos:Nat),s.size<=pos+f->(Lib.idxFuncFrom nu true s f pos<0↔∀i,pos<=i->i<s.size->cA (s.get! i).toNat≠0)
 |0,pos,h=>⟨λ_ i h1 h2=>by omega,λ_=>by rw[Lib.idxFuncFrom];decide⟩
 |f+1,pos,h=>by
  rw[Lib.idxFuncFrom]
  by_cases hp:pos<s.size
  .rw [if_pos hp];have hd:=Lib.decode_at s pos;rcases Lib.decodeN_cases (s.size-pos) (s.get! pos).toNat (s.get! (pos+1)).toNat (s.get! (pos+2)).toNat (s.get! (pos+3)).toNat with ⟨h1,h2⟩|h2
   .rw [hd,h2]
    by_cases hc:cA (s.get! pos).toNat=0
    .have hb:nu (s.get! pos).toNat=true:=by unfold nu;rw[decide_eq_true hc,Bool.or_true]
     rw[if_pos hb];exact⟨λe=>by omega,λe=>absurd hc (e pos (zG _) hp)⟩
    .have hle:¬122<(s.get! pos).toNat:=by
      intro hlt;apply hc;unfold cA;rw[if_neg (by omega),if_neg (by omega),if_neg (by omega)]
     have hb:nu (s.get! pos).toNat=false:=by unfold nu;rw[decide_eq_false hle,decide_eq_false hc];rfl
     rw[if_neg (by rw[hb];decide),EH s f (pos+1) (by omega)]
     refine⟨λe i h3 h4=>?_,λe i h3 h4=>e i (by omega) h4⟩
     rcases Nat.eq_or_lt_of_le h3 with h5|h5
     .rw [<-h5];exact hc
     .exact e i h5 h4
   .have hr:128<=(Utf8.decode s pos).1/\¬(s.get! pos).toNat<128\/(s.get! pos).toNat<128:=by
     by_cases hb:(s.get! pos).toNat<128
     .exact .inr hb
     .refine .inl ⟨?_,hb⟩;rw[hd];rcases h2 with ⟨_,_,_,h5,h6⟩|⟨_,_,_,_,h5,h6⟩|⟨h6,_⟩|h6
      .rw [h6];exact h5
      .rw [h6];show 128<=_;omega
      .omega
      .rw [h6];decide
    rcases hr with ⟨hr,hb⟩|hb
    .have hbr:nu (Utf8.decode s pos).1=true:=by unfold nu;rw[decide_eq_true (by omega:122<_)];rfl
     rw[if_pos hbr];have hc:cA (s.get! pos).toNat=0:=by unfold cA;rw[if_neg (by omega),if_neg (by omega),if_neg (by omega)]
     exact⟨λe=>by omega,λe=>absurd hc (e pos (zG _) hp)⟩
    .exfalso;have:Lib.decodeN (s.size-pos) (s.get! pos).toNat (s.get! (pos+1)).toNat (s.get! (pos+2)).toNat (s.get! (pos+3)).toNat=((s.get! pos).toNat,1):=by unfold Lib.decodeN;rw[if_pos hb]
     rw[this] at h2;rcases h2 with ⟨h3,_⟩|⟨h3,_⟩|⟨h3,_⟩|h6
     .omega
     .omega
     .dsimp only at h3;omega
     .have:=congrArg Prod.fst h6;simp only at this;omega
  .rw [if_neg hp];exact⟨λ_ i h1 h2=>by omega,λ_=>by decide⟩
def pW(s:ByteArray):Bool:=decide (1<=s.size/\s.size<=40/\∀i,i<s.size->cA (s.get! i).toNat≠0)
theorem ES(s:ByteArray){i:Nat}(h:i+1<s.size):(s.extract 1 s.size).get! i=s.get! (i+1):=by
 show (s.extract 1 s.size).data[i]! =s.data[i+1]!;have h2:i+1<s.data.size:=h;have hd:(s.extract 1 s.size).data=s.data.extract 1 s.size:=by simp
 have h3:i<(s.data.extract 1 s.size).size:=by
  rw[Array.size_extract];show i<min s.data.size s.data.size-1;omega
 rw[hd,getElem!_pos s.data (i+1) h2,getElem!_pos _ i h3,Array.getElem_extract];congr 1;omega
theorem J3(s:ByteArray):nW s=(pW s&&decide (cA (s.get! 0).toNat=1)):=by
 unfold nW pW;rw[Bool.eq_iff_iff];simp only[zD,decide_eq_true_eq];have hsz:(s.extract 1 s.size).size=s.size-1:=by simp
 rw[show Lib.idxFunc nu true (s.extract 1 s.size)=Lib.idxFuncFrom nu true (s.extract 1 s.size) (s.extract 1 s.size).size 0 from rfl,EH _ _ 0 (by omega),hsz]
 constructor
 .rintro ⟨⟨h1,h2⟩,h3,h4⟩;refine⟨⟨h1,h2,λi hi=>?_⟩,h3⟩
  cases i with
  |zero=>rw[h3];decide
  |succ i=>
   rw[<-ES s hi];exact h4 i (zJ _) (by omega)
 .rintro ⟨⟨h1,h2,h4⟩,h3⟩;refine⟨⟨h1,h2⟩,h3,λi _ hi=>?_⟩;rw[ES s (by omega)]
  exact h4 (i+1) (by omega)
theorem Mg(s:ByteArray):Fun Tryz.prog 127 [.str s,.int .u8 1] (.bool (nW s)):=by
 refine Fun.HX (λM σ n=>.flat (.bool _)) λM σ n w args hM hal hv=>?_
 obtain⟨v1,v2,rfl⟩:∃v1 v2,args=[v1,v2]:=by
  match args,hal with
  |[v1,v2],_=>exact⟨v1,v2,rfl⟩
 have h1:=hv 0 (by simp) v1 rfl
 have h2:=hv 1 (by simp) v2 rfl
 simp only[ZR,Zl] at h1 h2;obtain⟨rfl,hs⟩:=h1.eo;obtain rfl:=h2.aI;exact J1 s (by ((try unfold glim at hs);(try unfold lim at hs));omega) w
def jG(s:ByteArray):Bool:=nW s&&!I8 s
theorem DP(s:ByteArray):Fun Tryz.prog 105 [.str s] (.bool (jG s)):=by
 refine Fun.of (yz (by simp) ?_) rfl rfl
 conv=>whnf
 repeat' (first|(refine gF ?_;first|refine aa.fn (Mg _) ?_|refine aa.fn (DQ _) ?_)|(refine gC ?_;first|refine cYa ?_|refine cNa ?_|refine al.any (λhc=>?_) (λhc=>?_))|refine ae.nrm ?_)<;>conv=>whnf
 all_goals (simp[jG, *])
def dT(s:ByteArray):Bool:=decide (s=⟨⟨[43]⟩⟩)||(decide (s=⟨⟨[45]⟩⟩)||(decide (s=⟨⟨[42]⟩⟩)||(decide (s=⟨⟨[47]⟩⟩)||decide (s=⟨⟨[37]⟩⟩))))
theorem MC{s:ByteArray}(h:¬s.size=1):dT s=false:=by
 unfold dT;rw[decide_eq_false (by rintro rfl;exact h rfl),decide_eq_false (by rintro rfl;exact h rfl),decide_eq_false (by rintro rfl;exact h rfl),decide_eq_false (by rintro rfl;exact h rfl),decide_eq_false (by rintro rfl;exact h rfl)]
 rfl
theorem KS(c:UInt8):decide (0<=Lib.indexByte (⟨⟨[43,45,42,47,37]⟩⟩:ByteArray).data.toList c)=dT ⟨⟨[c]⟩⟩:=by
 have e:∀d:UInt8,decide ((⟨⟨[c]⟩⟩:ByteArray)=⟨⟨[d]⟩⟩)=decide (c=d):=λd=>by rw[decide_eq_decide];simp
 unfold dT;rw[e,e,e,e,e];simp only[Lib.indexByte]
 by_cases h1:c=43
 .subst h1;decide
 .by_cases h2:c=45
  .subst h2;decide
  .by_cases h3:c=42
   .subst h3;decide
   .by_cases h4:c=47
    .subst h4;decide
    .by_cases h5:c=37
     .subst h5;decide
     .have f:∀d:UInt8,¬c=d->(d==c)=false:=λd h=>by rw[beq_eq_false_iff_ne];exact λe=>h e.symm
      simp[h1,h2,h3,h4,h5,f 43 h1,f 45 h2,f 42 h3,f 47 h4,f 37 h5]
theorem HT(s:ByteArray):Fun Tryz.prog 129 [.str s] (.bool (dT s)):=by
 by_cases h1:s.size=1
 .obtain ⟨c,rfl⟩:∃c,s=⟨⟨[c]⟩⟩:=by
   obtain⟨⟨l⟩⟩:=s
   match l,h1 with
   |[c],_=>exact⟨c,rfl⟩
  refine Fun.of (lR (by simp) ?_) rfl rfl
  conv=>whnf
  repeat' (first|refine gF (aa.fn (Fb _ _) ?_)|refine gC (gD (cI ?_))|refine ae.nrm ?_)<;>conv=>whnf
  all_goals (refine congrArg AV.bool ?_;exact KS c)
 .refine Fun.of (lR (by simp) ?_) rfl rfl
  conv=>whnf
  repeat' (first|refine gC (gD (cJ ?_))|refine ae.nrm ?_)<;>conv=>whnf
  all_goals (refine congrArg AV.bool ?_;exact(MC h1).symm)
theorem wN(c:Nat):Fun Tryz.prog 102 [.int .u8 (c:Int)] (.bool (decide (97<=c/\c<=122))):=by
 refine Fun.of (lf (by simp) ?_) rfl rfl
 conv=>whnf
 repeat' (first|(refine gC ?_;first|(refine gD ?_;first|refine cI ?_|refine cJ ?_)|refine al.le (λhc=>?_) (λhc=>?_))|refine ae.nrm ?_)<;>conv=>whnf
 all_goals (refine congrArg AV.bool ?_;first|rfl|(rw[decide_eq_decide];omega)|(symm;rw[decide_eq_true_iff];omega)|(symm;rw[decide_eq_false_iff_not];omega))
theorem Du(c:Nat):Fun Tryz.prog 124 [.int .u8 (c:Int)] (.bool (decide (65<=c/\c<=90))):=by
 refine Fun.of (ld (by simp) ?_) rfl rfl
 conv=>whnf
 repeat' (first|(refine gC ?_;first|(refine gD ?_;first|refine cI ?_|refine cJ ?_)|refine al.le (λhc=>?_) (λhc=>?_))|refine ae.nrm ?_)<;>conv=>whnf
 all_goals (refine congrArg AV.bool ?_;first|rfl|(rw[decide_eq_decide];omega)|(symm;rw[decide_eq_true_iff];omega)|(symm;rw[decide_eq_false_iff_not];omega))
theorem Cb(s:ByteArray):Fun Tryz.prog 103 [.str s] (.bool (I8 s)):=by
 refine Fun.of (iZ (by simp) ?_) rfl rfl
 conv=>whnf
 repeat' (first|(refine gC ?_;first|refine cY ?_|(refine gD ?_;first|refine cI ?_|refine cJ ?_)|refine al.dec (λhc=>?_) (λhc=>?_))|refine ae.nrm ?_)<;>conv=>whnf
 all_goals (simp[I8, *])
theorem Ea(s:ByteArray):Fun Tryz.prog 99 [.str s] (.bool (dT s)):=by
 refine Fun.of (i6 (by simp) ?_) rfl rfl
 conv=>whnf
 repeat' (first|(refine gC ?_;first|refine cY ?_|(refine gD ?_;first|refine cI ?_|refine cJ ?_)|refine al.dec (λhc=>?_) (λhc=>?_))|refine ae.nrm ?_)<;>conv=>whnf
 all_goals (simp[dT, *])
theorem Ii{s:ByteArray}{j:Nat}(h:j<s.size):s[j]? =some (s.get! j):=by
 rw[getElem?_pos s j h];congr 1;exact(getElem!_pos s.data j h).symm
theorem JH(c:Nat):(cA c=0/\(¬(97<=c/\c<=122)/\¬(65<=c/\c<=90)/\¬c=95/\¬(48<=c/\c<=57)))\/(cA c≠0/\((97<=c/\c<=122)\/(65<=c/\c<=90)\/c=95\/(48<=c/\c<=57))):=by
 unfold cA
 by_cases h1:97<=c/\c<=122
 .exact .inr ⟨by rw[if_pos h1];decide,.inl h1⟩
 .by_cases h2:(65<=c/\c<=90)\/c=95
  .exact .inr ⟨by rw[if_neg h1,if_pos h2];decide,h2.elim (λh=>.inr (.inl h)) λh=>.inr (.inr (.inl h))⟩
  .by_cases h3:48<=c/\c<=57
   .exact .inr ⟨by rw[if_neg h1,if_neg h2,if_pos h3];decide,.inr (.inr (.inr h3))⟩
   .exact .inl ⟨by rw[if_neg h1,if_neg h2,if_neg h3],h1,λh=>h2 (.inl h),λh=>h2 (.inr h),h3⟩
theorem Dq(s:ByteArray):Fun Tryz.prog 101 [.str s] (.bool (pW s)):=by
 refine Fun.assume rfl λhg0=>?_;have hsz:s.size<=140737488355328:=w8 (hg0 (.str s) (by simp))
 refine Fun.of (lW (by simp) ?_) rfl rfl
 conv=>whnf
 skip;refine aD.by (fb:=true) (λ_ (j:Nat)=>⟨[(0,.str s),(3,.int .i64 (j:Int))],[],0⟩) (λj=>j<=s.size/\∀i,i<j->cA (s.get! i).toNat≠0) (λj=>s.size-j) 0 ⟨zJ _,λi h=>by omega⟩ ?_ ?_
 .exact aH
 .rintro j ⟨q1,q2⟩
  by_cases hj:j<s.size
  .obtain ⟨y,hy⟩:∃y,y=s.get! j:=⟨_,rfl⟩;have hx:s[((j:Nat):Int).toNat]? =some y:=by rw[Zu,hy];exact Ii hj
   have hbad:cA y.toNat=0->false=pW s:=λh=>by
    unfold pW;symm;rw[decide_eq_false_iff_not];rintro⟨_,_,h3⟩;exact h3 j hj (by rw[<-hy];exact h)
   obtain⟨c,hcy⟩:∃c,c=y.toNat:=⟨_,rfl⟩;rw[<-hcy] at hbad;rcases JH c with ⟨hc,h1⟩|⟨hc,h1⟩
   .conv=>whnf
    repeat' (first|(refine gF ?_;first|refine aa.fn (wN _) ?_|refine aa.fn (Du _) ?_)|(refine gC ?_;first|refine cY ?_|refine .not ?_|(refine gD ?_;first|refine cI ?_|refine cJ ?_)|refine al.lt (λhc=>?_) (λhc=>?_))|refine ae.nrm ?_|refine gIs (iS ?_))<;>conv=>whnf
    all_goals (exact congrArg AV.bool (hbad (by assumption)))
   .conv=>whnf
    repeat' (first|(refine gF ?_;first|refine aa.fn (wN _) ?_|refine aa.fn (Du _) ?_)|(refine gC ?_;first|refine cN ?_|refine .not ?_|(refine gD ?_;first|refine cI ?_|refine cJ ?_)|refine al.lt (λhc=>?_) (λhc=>?_)|refine al.dec (λhc=>?_) (λhc=>?_))|refine gW (wI ?_)|refine gIs (iS ?_))<;>conv=>whnf
    all_goals
     refine⟨j+1,⟨⟨hj,λi hi=>?_⟩,by omega⟩,?_⟩
     .rcases zt i j with h3|h3
      .exact q2 i h3
      .obtain rfl:i=j:=by omega
       rw[<-hy,<-hcy];assumption
     exact aH
  .have hall:pW s=decide (1<=s.size/\s.size<=40):=by
    unfold pW;rw[decide_eq_decide];exact⟨λh=>⟨h.1,h.2.1⟩,λh=>⟨h.1,h.2,λi hi=>q2 i (by omega)⟩⟩
   rw[hall]
   conv=>whnf
   repeat' (first|(refine gC ?_;first|(refine gD ?_;first|refine cI ?_|refine cJ ?_)|refine al.le (λhc=>?_) (λhc=>?_))|refine ae.nrm ?_)<;>conv=>whnf
   all_goals (refine congrArg AV.bool ?_;first|rfl|(rw[decide_eq_decide];omega)|(symm;rw[decide_eq_true_iff];omega)|(symm;rw[decide_eq_false_iff_not];omega))
end Go.CK
namespace Go.CK
open Go.AM Go.Proofs
theorem Nb(c:Nat):decide (97<=c/\c<=122)=decide (cA c=1):=by
 rw[decide_eq_decide];unfold cA
 by_cases h1:97<=c/\c<=122
 .rw [if_pos h1];exact⟨λ_=>rfl,λ_=>h1⟩
 .rw [if_neg h1];refine⟨λh=>absurd h h1,λh=>?_⟩;split at h
  .cases h
  .split at h<;>cases h
theorem Az(s:ByteArray):Fun Tryz.prog 83 [.str s] (.bool (jG s)):=by
 have he:jG s=(pW s&&(decide (cA (s.get! 0).toNat=1)&&!I8 s)):=by rw[jG,J3,Bool.and_assoc]
 rw[he]
 cases hw:pW s with
 |false=>
  have hwo:Fun Tryz.prog 101 [.str s] (.bool false):=by rw[<-hw];exact Dq s
  refine Fun.of (ef (by simp) ?_) rfl rfl
  conv=>whnf
  repeat' (first|refine gF (aa.fn (hwo) ?_)|refine gC (cN ?_)|refine ae.nrm ?_)<;>conv=>whnf
  all_goals rfl
 |true=>
  have hwo:Fun Tryz.prog 101 [.str s] (.bool true):=by rw[<-hw];exact Dq s
  have h1:1<=s.size:=by unfold pW at hw;exact(of_decide_eq_true hw).1
  obtain⟨y,hy⟩:∃y,y=s.get! 0:=⟨_,rfl⟩;have hx:s[(0:Int).toNat]? =some y:=by rw[hy];exact Ii (by omega)
  rw[<-hy,<-Nb];refine Fun.of (ef (by simp) ?_) rfl rfl
  conv=>whnf
  repeat' (first|(refine gF ?_;first|refine aa.fn (hwo) ?_|refine aa.fn (wN _) ?_|refine aa.fn (Cb _) ?_)|(refine gC ?_;first|refine cY ?_|(refine gD ?_;first|refine cI ?_|refine cJ ?_)|refine al.dec (λhc=>?_) (λhc=>?_))|refine ae.nrm ?_|refine gIs (iS ?_))<;>conv=>whnf
  all_goals (clear hy;refine congrArg AV.bool ?_;simp[*])
mutual
def Tm.form:Tm->Bool
 |.mk k n s l=>if k=0 then decide (-2147483648<=n/\n<=2147483648/\s=⟨⟨[]⟩⟩/\l.length=0)
  else if k=1 then decide (0<=n/\n<=1048576/\s=⟨⟨[]⟩⟩/\l.length=0)
  else if k=2 then decide (n=0/\l.length<=6)&&((jG s||(dT s&&decide (l.length=2)))&&Tm.cd l)
  else false
def Tm.cd:List Tm->Bool
 |[]=>true
 |t::r=>t.form&&Tm.cd r
end
mutual
def Tm.sz:Tm->Nat
 |.mk k _ _ l=>1+(if k=2 then Tm.szs l else 0)
def Tm.szs:List Tm->Nat
 |[]=>0
 |t::r=>t.sz+Tm.szs r
end
mutual
def Tm.dep:Tm->Nat
 |.mk k _ _ l=>(if k=2 then Tm.ej l else 0)+1
def Tm.ej:List Tm->Nat
 |[]=>0
 |t::r=>max t.dep (Tm.ej r)
end
def vB(n d:Int)(t:Tm):Bool:=t.form&&decide ((t.sz:Int)<=n/\(t.dep:Int)<=d)
def vLB(n d:Int)(l:List Tm):Bool:=Tm.cd l&&decide ((Tm.szs l:Int)<=n/\(Tm.ej l:Int)<=d)
def Tm.right(t:Tm):Bool:=vB 200 20 t
theorem n5:∀(l:List Tm) (x:Tm),Tm.szs (l++[x])=Tm.szs l+x.sz
 |[],x=>by simp[Tm.szs]
 |y::l,x=>by simp only[ze,Tm.szs,n5 l x];omega
theorem jN:∀(l:List Tm) (x:Tm),Tm.cd (l++[x])=(Tm.cd l&&x.form)
 |[],x=>by simp[Tm.cd]
 |y::l,x=>by simp only[ze,Tm.cd,jN l x,Bool.and_assoc]
theorem tN:∀(l:List Tm) (x:Tm),Tm.ej (l++[x])=max (Tm.ej l) x.dep
 |[],x=>by simp[Tm.ej]
 |y::l,x=>by simp only[ze,Tm.ej,tN l x];omega
theorem rq:∀(l:List Tm) {j:Nat} {x:Tm},l[j]? =some x->Tm.szs (l.take j)+x.sz<=Tm.szs l
 |y::l,0,x,h=>by simp at h;subst h;simp only[ZL,Tm.szs];omega
 |y::l,j+1,x,h=>by
  have:=rq l (j:=j) (x:=x) (by simpa using h)
  simp only[yP,Tm.szs];omega
 |[],j,x,h=>by simp at h
theorem tG:∀{l:List Tm} {x:Tm},Tm.cd l=true->x∈l->x.form=true
 |y::l,x,h,hm=>by
  simp only[Tm.cd,zD] at h;rcases zI.1 hm with rfl|hm
  .exact h.1
  .exact tG h.2 hm
theorem xu:∀{l:List Tm} {x:Tm},x∈l->x.dep<=Tm.ej l
 |y::l,x,hm=>by
  simp only[Tm.ej];rcases zI.1 hm with rfl|hm
  .omega
  .have:=xu hm;omega
theorem IV{n d:Int}{l:List Tm}{j:Nat}{x:Tm}(hx:l[j]? =some x)(h:vB (n-Tm.szs (l.take j)) d x=false):vLB n d l=false:=by
 rw[Bool.eq_false_iff];intro hv;unfold vLB at hv;rw[zD,decide_eq_true_eq] at hv;obtain⟨h1,h2,h3⟩:=hv;have hm:=zE hx;have h4:=rq l hx;have h5:=xu hm;unfold vB at h;rw[tG h1 hm,za,decide_eq_false_iff_not] at h;apply h;omega
theorem uX{n d:Int}{t:Tm}(h:vB n d t=true):t.form=true/\(t.sz:Int)<=n/\(t.dep:Int)<=d:=by
 unfold vB at h;rw[zD,decide_eq_true_eq] at h;exact h
theorem rz{t:Tm}(h:¬t.kind=2):t.sz=1:=by
 obtain⟨k,i,s,l⟩:=t;simp only[Tm.kind] at h;rw[Tm.sz,if_neg h]
theorem sI{t:Tm}(h:¬t.kind=2):t.dep=1:=by
 obtain⟨k,i,s,l⟩:=t;simp only[Tm.kind] at h;rw[Tm.dep,if_neg h]
theorem n9{t:Tm}(h:t.kind=2):t.sz=1+Tm.szs t.args:=by
 obtain⟨k,i,s,l⟩:=t;simp only[Tm.kind] at h;rw[Tm.sz,if_pos h];rfl
theorem ku{t:Tm}(h:t.kind=2):t.dep=Tm.ej t.args+1:=by
 obtain⟨k,i,s,l⟩:=t;simp only[Tm.kind] at h;rw[Tm.dep,if_pos h];rfl
theorem CP{t:Tm}(h:t.kind=0):t.form=decide (-2147483648<=t.num/\t.num<=2147483648/\t.name=⟨⟨[]⟩⟩/\t.args.length=0):=by
 obtain⟨k,i,s,l⟩:=t;simp only[Tm.kind] at h;rw[Tm.form,if_pos h];rfl
theorem xc{t:Tm}(h:t.kind=1):t.form=decide (0<=t.num/\t.num<=1048576/\t.name=⟨⟨[]⟩⟩/\t.args.length=0):=by
 obtain⟨k,i,s,l⟩:=t;simp only[Tm.kind] at h;rw[Tm.form,if_neg (by omega),if_pos h];rfl
theorem tH{t:Tm}(h:t.kind=2):t.form=(decide (t.num=0/\t.args.length<=6)&&((jG t.name||(dT t.name&&decide (t.args.length=2)))&&Tm.cd t.args)):=by
 obtain⟨k,i,s,l⟩:=t;simp only[Tm.kind] at h;rw[Tm.form,if_neg (by omega),if_neg (by omega),if_pos h];rfl
theorem CO{t:Tm}(h0:¬t.kind=0)(h1:¬t.kind=1)(h2:¬t.kind=2):t.form=false:=by
 obtain⟨k,i,s,l⟩:=t;simp only[Tm.kind] at h0 h1 h2;rw[Tm.form,if_neg h0,if_neg h1,if_neg h2]
theorem BX(t:Tm):1<=t.sz:=by obtain⟨k,i,s,l⟩:=t;rw[Tm.sz];omega
theorem pF(t:Tm):1<=t.dep:=by obtain⟨k,i,s,l⟩:=t;rw[Tm.dep];omega
theorem J9{n d:Int}{t:Tm}(h:n<1\/d<1):vB n d t=false:=by
 have h1:=BX t;have h2:=pF t;unfold vB;rw[decide_eq_false (by omega),Bool.and_false]
theorem BR{n d:Int}{t:Tm}(h:¬t.kind=2)(hn:1<=n)(hd:1<=d):vB n d t=t.form:=by
 unfold vB;rw[rz h,sI h,decide_eq_true (by omega),Bool.and_true]
theorem NT{n d:Int}{t:Tm}(h:t.kind=2):vB n d t=(decide (t.num=0/\t.args.length<=6)&&((jG t.name||(dT t.name&&decide (t.args.length=2)))&&vLB (n-1) (d-1) t.args)):=by
 unfold vB vLB
 have e:decide ((t.sz:Int)<=n/\(t.dep:Int)<=d)=decide ((Tm.szs t.args:Int)<=n-1/\(Tm.ej t.args:Int)<=d-1):=by
  rw[decide_eq_decide,n9 h,ku h];omega
 rw[tH h,e,Bool.and_assoc,Bool.and_assoc]
def q8(n:Int)(b:Bool)(k:Nat)(r:AV)(bs':List Box):Prop:=r=.bool b/\∃m:Int,bs'=[.cells [.int .i64 m]]/\(b=true->m=n-k)
theorem BP{n d:Int}{t:Tm}{bs:List Box}{m:Int}(hb:bs=[.cells [.int .i64 m]])(h:vB n d t=false):q8 n (vB n d t) t.sz (.bool false) bs:=⟨by rw[h],m,hb,by rw[h];intro e;cases e⟩
theorem J8{n d:Int}{t:Tm}{b:Bool}{bs:List Box}(hk:¬t.kind=2)(hb:bs=[.cells [.int .i64 (n-1)]])(h:vB n d t=b):q8 n (vB n d t) t.sz (.bool b) bs:=⟨by rw[h],n-1,hb,by rw[rz hk];intro _;rfl⟩
set_option maxHeartbeats 1000000 in
theorem Hj{l:List Tm}{n d:Int}(hn:0<=n/\n<=200)(hd:0<=d/\d<=20)(hl:l.length<=140737488355328)(h:∀x∈l,∀n:Int,0<=n->n<=200->AM.Sem Tryz.prog 106 [.ptr 0 0,x.avw,.int .i64 d] [.cells [.int .i64 n]] (q8 n (vB n d x) x.sz)):AM.Sem Tryz.prog 87 [.ptr 0 0,.sl .no (l.map Tm.av),.int .i64 d] [.cells [.int .i64 n]] (q8 n (vLB n d l) (Tm.szs l)):=by
 refine ot (by simp) ?_
 conv=>whnf
 repeat' refine gL (.map ?_)<;>conv=>whnf
 refine aD.by (fb:=true) (λ_ (q:Nat×Int)=>⟨[(0,.ptr 0 0),(1,.sl .no (l.map Tm.av)),(2,.int .i64 d),(9,.int .i64 (l.length:Int)),(10,.int .i64 (q.1:Int))],[.cells [.int .i64 q.2]],1⟩) (λq=>q.1<=l.length/\q.2=n-Tm.szs (l.take q.1)/\0<=q.2/\vLB n d (l.take q.1)=true) (λq=>l.length-q.1) (0,n) ⟨zJ _,by simp[Tm.szs],hn.1,by simp[vLB,Tm.cd,Tm.szs,Tm.ej];omega⟩ ?_ ?_
 .exact aH
 .rintro ⟨j,m⟩ ⟨q1,q2,q3,q4⟩;dsimp only at q1 q2 q3 q4|-
  by_cases hj:j<l.length
  .obtain ⟨x,hx⟩:∃x,l[j]? =some x:=⟨_,zA hj⟩;have htk:l.take (j+1)=l.take j++[x]:=by rw[ZC,hx];rfl
   have hcall:=h x (zE hx) m q3 (by omega)
   conv=>whnf
   repeat' (first|refine gC (gD (cI ?_))|refine gI (gT (iA ?_)))<;>conv=>whnf
   cases hb:vB m d x with
   |false=>
    rw[hb] at hcall;refine aa.at [0] hcall rfl rfl ?_ oko ?_
    .rintro r bs' ⟨rfl,m',rfl,_⟩;exact⟨rfl,rfl,oko⟩
    rintro r bs' ⟨rfl,m',rfl,_⟩
    conv=>whnf
    repeat' (refine gC ?_;first|refine cN ?_|refine .not ?_)<;>conv=>whnf
    conv=>whnf
    repeat' refine ae.nrm ?_<;>conv=>whnf
    have:=IV (n:=n) (d:=d) hx (by rw[<-q2];exact hb)
    exact⟨by rw[this],m',rfl,by rw[this];intro e;cases e⟩
   |true=>
    rw[hb] at hcall;refine aa.at [0] hcall rfl rfl ?_ oko ?_
    .rintro r bs' ⟨rfl,m',rfl,_⟩;exact⟨rfl,rfl,oko⟩
    rintro r bs' ⟨rfl,m',rfl,hm'⟩;have hm':=hm' rfl;obtain⟨b1,b2,b3⟩:=uX hb
    conv=>whnf
    repeat' (first|(refine gC ?_;first|refine cY ?_|refine .not ?_)|refine gW (wI ?_))<;>conv=>whnf
    refine⟨(j+1,m'),⟨⟨hj,by show m'=n-Tm.szs (l.take (j+1));rw[htk,n5];omega,by show 0<=m';omega,?_⟩,by show _-(j+1)<_-j;omega⟩,?_⟩
    .show vLB n d (l.take (j+1))=true;unfold vLB at q4|-;rw[zD,decide_eq_true_eq] at q4|-;rw[htk,jN,n5,tN,q4.1,b1];exact⟨rfl,by omega,by omega⟩
    exact aH
  .obtain rfl:j=l.length:=by omega
   rw[zl (zG _)] at q2 q4
   conv=>whnf
   repeat' refine gC (gD (cJ ?_))<;>conv=>whnf
   conv=>whnf
   repeat' refine ae.nrm ?_<;>conv=>whnf
   exact⟨by rw[q4],m,rfl,λ_=>q2⟩
set_option maxHeartbeats 1000000 in
theorem Dt(t:Tm):∀n d:Int,0<=n->n<=200->0<=d->d<=20->AM.Sem Tryz.prog 106 [.ptr 0 0,t.avw,.int .i64 d] [.cells [.int .i64 n]] (q8 n (vB n d t) t.sz):=by
 induction t using Tm.bD with
 |h k i s l ih=>
 intro n d hn hn2 hd hd2;generalize ha:Tm.mk k i s l=t;replace ih:∀x∈t.args,∀n d:Int,0<=n->n<=200->0<=d->d<=20->AM.Sem Tryz.prog 106 [.ptr 0 0,x.avw,.int .i64 d] [.cells [.int .i64 n]] (q8 n (vB n d x) x.sz):=by subst ha;exact ih
 clear ha;refine Sem.assume λhg0 _=>?_;have hg:=(pD (hg0 t.avw (by simp) rfl)).2.1
 refine mO (by simp) ?_
 by_cases hlow:n<1\/d<1
 .by_cases h1:n<1
  .conv=>whnf
   repeat' (first|(refine gC ?_;first|refine cY ?_|refine gD (cI ?_))|refine gW (wI ?_))<;>conv=>whnf
   refine ae.lay [some 0] oko ?_
   conv=>whnf
   repeat' refine ae.nrm ?_<;>conv=>whnf
   exact BP rfl (J9 hlow)
  .have h2:d<1:=hlow.resolve_left h1
   conv=>whnf
   repeat' (first|(refine gC ?_;(refine gD ?_;first|refine cI ?_|refine cJ ?_))|refine gW (wI ?_))<;>conv=>whnf
   refine ae.lay [some 0] oko ?_
   conv=>whnf
   repeat' refine ae.nrm ?_<;>conv=>whnf
   exact BP rfl (J9 hlow)
 .have h1:¬n<1:=λe=>hlow (.inl e);have h2:¬d<1:=λe=>hlow (.inr e)
  by_cases hk2:t.kind=2
  .rw [show q8 n (vB n d t) t.sz=q8 n (decide (t.num=0/\t.args.length<=6)&&((jG t.name||(dT t.name&&decide (t.args.length=2)))&&vLB (n-1) (d-1) t.args)) t.sz by rw[NT hk2]]
   by_cases h3:t.num=0/\t.args.length<=6
   rotate_left
   .rw [decide_eq_false h3,zw]
    by_cases h4:t.num=0
    .have h5:¬t.args.length<=6:=λe=>h3 ⟨h4,e⟩
     conv=>whnf
     repeat' (first|(refine gC ?_;first|refine .not ?_|(refine gD ?_;first|refine cI ?_|refine cJ ?_))|refine gW (wI ?_)|refine gL (.map ?_))<;>conv=>whnf
     refine ae.lay [some 0] oko ?_
     conv=>whnf
     repeat' refine ae.nrm ?_<;>conv=>whnf
     exact⟨rfl,_,rfl,λe=>by cases e⟩
    .conv=>whnf
     repeat' (first|(refine gC ?_;first|refine cY ?_|refine .not ?_|(refine gD ?_;first|refine cI ?_|refine cJ ?_))|refine gW (wI ?_))<;>conv=>whnf
     refine ae.lay [some 0] oko ?_
     conv=>whnf
     repeat' refine ae.nrm ?_<;>conv=>whnf
     exact⟨rfl,_,rfl,λe=>by cases e⟩
   obtain⟨h4,h5⟩:=h3;rw[decide_eq_true (show t.num=0/\t.args.length<=6 from ⟨h4,h5⟩),za];have hro:=DP t.name;have hoo:=HT t.name
   cases hnr:jG t.name with
   |true=>
    rw[hnr] at hro;rw[Bool.true_or,za]
    conv=>whnf
    repeat' (first|refine gF (aa.fn (hro) ?_)|(refine gC ?_;first|refine cY ?_|refine cN ?_|refine .not ?_|(refine gD ?_;first|refine cI ?_|refine cJ ?_))|refine gW (wI ?_)|refine gL (.map ?_))<;>conv=>whnf
    refine aa.at [0] (Hj (l:=t.args) (n:=n-1) (d:=d-1) ⟨by omega,by omega⟩ ⟨by omega,by omega⟩ hg λx hx m hm hm2=>ih x hx m (d-1) hm hm2 (by omega) (by omega)) rfl rfl ?_ oko ?_
    .rintro r bs' ⟨rfl,m',rfl,_⟩;exact⟨rfl,rfl,oko⟩
    rintro r bs' ⟨rfl,m',rfl,hm'⟩
    conv=>whnf
    skip;refine ae.lay [some 0] oko ?_
    conv=>whnf
    repeat' refine ae.nrm ?_<;>conv=>whnf
    exact⟨rfl,m',rfl,λe=>by rw[hm' e,n9 hk2];omega⟩
   |false=>
    rw[hnr] at hro;rw[Bool.false_or]
    cases hop:dT t.name with
    |false=>
     rw[hop] at hoo;rw[zw,zw]
     conv=>whnf
     repeat' (first|(refine gF ?_;first|refine aa.fn (hro) ?_|refine aa.fn (hoo) ?_)|(refine gC ?_;first|refine cN ?_|refine .not ?_|(refine gD ?_;first|refine cI ?_|refine cJ ?_))|refine gW (wI ?_)|refine gL (.map ?_))<;>conv=>whnf
     refine ae.lay [some 0] oko ?_
     conv=>whnf
     repeat' refine ae.nrm ?_<;>conv=>whnf
     exact⟨rfl,_,rfl,λe=>by cases e⟩
    |true=>
     rw[hop] at hoo;rw[za]
     by_cases h6:t.args.length=2
     .rw [decide_eq_true h6,za]
      conv=>whnf
      repeat' (first|(refine gF ?_;first|refine aa.fn (hro) ?_|refine aa.fn (hoo) ?_)|(refine gC ?_;first|refine cY ?_|refine cN ?_|refine .not ?_|(refine gD ?_;first|refine cI ?_|refine cJ ?_))|refine gW (wI ?_)|refine gL (.map ?_))<;>conv=>whnf
      refine aa.at [0] (Hj (l:=t.args) (n:=n-1) (d:=d-1) ⟨by omega,by omega⟩ ⟨by omega,by omega⟩ hg λx hx m hm hm2=>ih x hx m (d-1) hm hm2 (by omega) (by omega)) rfl rfl ?_ oko ?_
      .rintro r bs' ⟨rfl,m',rfl,_⟩;exact⟨rfl,rfl,oko⟩
      rintro r bs' ⟨rfl,m',rfl,hm'⟩
      conv=>whnf
      skip;refine ae.lay [some 0] oko ?_
      conv=>whnf
      repeat' refine ae.nrm ?_<;>conv=>whnf
      exact⟨rfl,m',rfl,λe=>by rw[hm' e,n9 hk2];omega⟩
     .rw [decide_eq_false h6,zw]
      conv=>whnf
      repeat' (first|(refine gF ?_;first|refine aa.fn (hro) ?_|refine aa.fn (hoo) ?_)|(refine gC ?_;first|refine cY ?_|refine cN ?_|refine .not ?_|(refine gD ?_;first|refine cI ?_|refine cJ ?_))|refine gW (wI ?_)|refine gL (.map ?_))<;>conv=>whnf
      refine ae.lay [some 0] oko ?_
      conv=>whnf
      repeat' refine ae.nrm ?_<;>conv=>whnf
      exact⟨rfl,_,rfl,λe=>by cases e⟩
  .by_cases hk0:t.kind=0
   .conv=>whnf
    repeat' (first|(refine gC ?_;first|refine cN ?_|(refine gD ?_;first|refine cI ?_|refine cJ ?_)|refine al.le (λhc=>?_) (λhc=>?_)|refine al.dec (λhc=>?_) (λhc=>?_))|refine gW (wI ?_)|refine gL (.map ?_))<;>conv=>whnf
    all_goals
     refine ae.lay [some 0] oko ?_
     conv=>whnf
     repeat' refine ae.nrm ?_<;>conv=>whnf
     refine J8 hk2 rfl ?_;rw[BR hk2 (by omega) (by omega),CP hk0]
     first
      |(rw[decide_eq_decide];exact⟨λh=>by omega,λh=>⟨by omega,by omega,by assumption,by omega⟩⟩)
      |(rw[decide_eq_false_iff_not];rintro⟨e1,e2,e3,e4⟩;first|omega|contradiction)
      |(rw[decide_eq_true_iff];exact⟨by omega,by omega,by assumption,by omega⟩)
   .by_cases hk1:t.kind=1
    .conv=>whnf
     repeat' (first|(refine gC ?_;first|refine cN ?_|(refine gD ?_;first|refine cI ?_|refine cJ ?_)|refine al.le (λhc=>?_) (λhc=>?_)|refine al.dec (λhc=>?_) (λhc=>?_))|refine gW (wI ?_)|refine gL (.map ?_))<;>conv=>whnf
     all_goals
      refine ae.lay [some 0] oko ?_
      conv=>whnf
      repeat' refine ae.nrm ?_<;>conv=>whnf
      refine J8 hk2 rfl ?_;rw[BR hk2 (by omega) (by omega),xc hk1]
      first
       |(rw[decide_eq_decide];exact⟨λh=>by omega,λh=>⟨by omega,by omega,by assumption,by omega⟩⟩)
       |(rw[decide_eq_false_iff_not];rintro⟨e1,e2,e3,e4⟩;first|omega|contradiction)
       |(rw[decide_eq_true_iff];exact⟨by omega,by omega,by assumption,by omega⟩)
    .conv=>whnf
     repeat' (first|refine gC (gD (cJ ?_))|refine gW (wI ?_))<;>conv=>whnf
     refine ae.lay [some 0] oko ?_
     conv=>whnf
     repeat' refine ae.nrm ?_<;>conv=>whnf
     exact BP rfl (by rw[BR hk2 (by omega) (by omega),CO hk0 hk1 hk2])
theorem BW(t:Tm):Fun Tryz.prog 150 [t.avw] (.bool t.right):=by
 refine Fun.of (yy (by simp) ?_) rfl rfl
 conv=>whnf
 skip;refine aa.at [1] (Dt t 200 20 (by decide) (by decide) (by decide) (by decide)) rfl rfl ?_ oko ?_
 .rintro r bs' ⟨rfl,m',rfl,_⟩;exact⟨rfl,rfl,oko⟩
 rintro r bs' ⟨rfl,m',rfl,hm'⟩
 conv=>whnf
 skip
 conv=>whnf
 repeat' refine ae.nrm ?_<;>conv=>whnf
 rfl
theorem IU(t:Tm):Fun Tryz.prog 149 [t.avw] (.bool (!t.right)):=by
 refine Fun.of (tl (by simp) ?_) rfl rfl
 conv=>whnf
 repeat' (first|refine gF (aa.fn (BW _) ?_)|refine ae.nrm ?_)<;>conv=>whnf
def j3:List Tm->Nat->Int
 |[],_=>-1
 |t::r,j=>if t.right then j3 r (j+1) else (j:Int)
theorem x9(l:List Tm):Fun Tryz.prog 169 [.sl .no (l.map Tm.av),.fn (.func 149) [] []] (.int .i64 (j3 l 0)):=by
 refine Fun.of (Sem.assume λhg0 _=>?_) rfl rfl;have hg:=(cE (hg0 (.sl .no (l.map Tm.av)) (by simp) rfl)).1
 refine dL (by simp) ?_
 conv=>whnf
 repeat' refine gL (.map ?_)<;>conv=>whnf
 refine aD.by (fb:=true) (λ_ (j:Nat)=>⟨[(0,.sl .no (l.map Tm.av)),(1,.fn (.func 149) [] []),(7,.int .i64 (l.length:Int)),(8,.int .i64 (j:Int))],[],0⟩) (λj=>j<=l.length/\j3 (l.drop j) j=j3 l 0) (λj=>l.length-j) 0 ⟨zJ _,rfl⟩ ?_ ?_
 .exact aH
 .rintro j ⟨q1,q2⟩
  by_cases hj:j<l.length
  .obtain ⟨x,hx⟩:∃x,l[j]? =some x:=⟨_,zA hj⟩;rw[zH hj,(zB.1 hx).2,j3] at q2;have h1:=IU x
   cases hr:x.right with
   |false=>
    rw[hr] at h1 q2;rw[<-q2]
    conv=>whnf
    repeat' (first|refine gF (aa.fn (h1) ?_)|(refine gC ?_;first|refine cN ?_|refine .not ?_|refine gD (cI ?_))|refine gI (gT (iA ?_))|refine gH (hB ?_)|refine ae.nrm ?_)<;>conv=>whnf
    rfl
   |true=>
    rw[hr] at h1 q2
    conv=>whnf
    repeat' (first|refine gF (aa.fn (h1) ?_)|(refine gC ?_;first|refine cY ?_|refine .not ?_|refine gD (cI ?_))|refine gW (wI ?_)|refine gI (gT (iA ?_))|refine gH (hB ?_))<;>conv=>whnf
    refine⟨j+1,⟨⟨hj,q2⟩,by omega⟩,?_⟩
    exact aH
  .obtain rfl:j=l.length:=by omega
   rw[zj,j3] at q2;rw[<-q2]
   conv=>whnf
   repeat' (first|refine gC (gD (cJ ?_))|refine ae.nrm ?_)<;>conv=>whnf
theorem tT:∀(l:List Tm) (j:Nat),decide (0<=j3 l j)=!l.all Tm.right
 |[],j=>rfl
 |t::r,j=>by
  rw[j3,Zr]
  cases h:t.right with
  |true=>rw[if_pos rfl,tT r (j+1),za]
  |false=>rw[if_neg Za];simp
theorem vg(l:List Tm):Fun Tryz.prog 133 [.sl .no (l.map Tm.av)] (.bool (l.all Tm.right)):=by
 have hc:Fun Tryz.prog 148 [.sl .no (l.map Tm.av),.fn (.func 149) [] []] (.bool (!l.all Tm.right)):=by
  rw[<-tT l 0];refine Fun.of (dk (by simp) ?_) rfl rfl
  conv=>whnf
  repeat' (first|refine gF (aa.fn (x9 l) ?_)|refine ae.nrm ?_)<;>conv=>whnf
 refine Fun.of (wg (by simp) ?_) rfl rfl
 conv=>whnf
 repeat' (first|refine gF (aa.fn (hc) ?_)|refine ae.nrm ?_)<;>conv=>whnf
 exact congrArg AV.bool (Bool.not_not _)
end Go.CK
namespace Go.CK
open Go.AM Go.Proofs
theorem Eh:AM.Sem Tryz.prog 134 [] [] λr bs'=>r=.ptr 4 0/\bs'=[.mp [],.mp [],.mp [],.mp [],.cells [.sl .full [],.mpt 0,.sl .full [],.mpt 1,.mpt 2,.mpt 3]]:=by
 refine rZ (by simp) ?_
 conv=>whnf
 repeat' refine ae.nrm ?_<;>conv=>whnf
 exact⟨rfl,rfl⟩
theorem KK{β:Type}:∀{l:List (Int×β)} {n:Int} {y:β} {e:Int×β},e∈pt l n y->e=(n,y)\/e∈l
 |[],n,y,e,h=>by simp[pt] at h;exact .inl h
 |(k,x)::l,n,y,e,h=>by
  simp only[pt] at h;split at h
  .rename_i hk;rcases zI.1 h with rfl|h
   .exact .inl (by rw[hk])
   .exact .inr (zQ _ h)
  .rcases zI.1 h with rfl|h
   .exact .inr (zV ..)
   .rcases KK h with h|h
    .exact .inl h
    .exact .inr (zQ _ h)
theorem HM{β:Type}:∀{l:List (Int×β)} {n k:Int} {y:β},k∈(pt l n y).map (·.1)↔k=n\/k∈l.map (·.1)
 |[],n,k,y=>by simp[pt]
 |(j,x)::l,n,k,y=>by
  simp only[pt];split
  .rename_i hk;subst hk;simp
  .simp only[zP,zI,HM (l:=l)];constructor
   .rintro (h|h|h)<;>simp[h]
   .rintro (h|h|h)<;>simp[h]
theorem D4{β:Type}:∀{l:List (Int×β)} {n:Int} {y:β},(l.map (·.1)).Nodup->((pt l n y).map (·.1)).Nodup
 |[],n,y,_=>by simp[pt]
 |(k,x)::l,n,y,h=>by
  simp only[zP,Zg] at h;simp only[pt];split
  .simp only[zP,Zg];exact h
  .rename_i hk;simp only[zP,Zg];refine⟨λe=>?_,D4 h.2⟩;rcases HM.1 e with e|e
   .exact hk e.symm
   .exact h.1 e
theorem KL{β:Type}:∀{l:List (Int×β)} {n:Int} {y:β},(pt l n y).length<=l.length+1
 |[],n,y=>by simp[pt]
 |(k,x)::l,n,y=>by
  simp only[pt];split
  .simp
  .simp only[zX];have:=KL (l:=l) (n:=n) (y:=y);omega
structure Gr.ok(g:Gr):Prop where
 up:g.up.length=g.nodes.length
 fresh:g.fresh
 nodup:(g.vars.map (·.1)).Nodup
 ints:∀e∈g.vars,bM e.1
 len:g.vars.length<=g.nodes.length
theorem l8{t:Tm}(h:t.form=true):Tm.cd t.args=true:=by
 by_cases h0:t.kind=0
 .rw [CP h0,decide_eq_true_eq] at h;rw[zL h.2.2.2];rfl
 .by_cases h1:t.kind=1
  .rw [xc h1,decide_eq_true_eq] at h;rw[zL h.2.2.2];rfl
  .by_cases h2:t.kind=2
   .rw [tH h2] at h;simp only[zD] at h;exact h.2.2
   .rw [CO h0 h1 h2] at h;cases h
theorem jO{t:Tm}(h:t.form=true)(hk:t.kind=1):0<=t.num/\t.num<=1048576/\t.args=[]:=by
 rw[xc hk,decide_eq_true_eq] at h;exact⟨h.1,h.2.1,zL h.2.2.2⟩
mutual
theorem oM:∀(t:Tm),t.form=true->t.Vok
 |.mk k n s l,h=>⟨λhk=>(jO h hk).2.2,Bg l (l8 h)⟩
theorem Bg:∀(l:List Tm),Tm.cd l=true->Tm.L7 l
 |[],_=>trivial
 |t::r,h=>by
  simp only[Tm.cd,zD] at h;exact⟨oM t h.1,Bg r h.2⟩
end
theorem L5{g:Gr}{t:Tm}{l:List Nat}(ht:t.kind=1->bM t.num)(h:g.ok):(cr g t l).ok:=by
 refine⟨?_,xT h.fresh,?_,?_,?_⟩
 .simp only[cr,zC,zU,h.up]
 .simp only[cr];split
  .exact D4 h.nodup
  .exact h.nodup
 .simp only[cr];split
  .intro e he;rcases KK he with rfl|he
   .exact ht (by assumption)
   .exact h.ints e he
  .exact h.ints
 .have:=h.len;simp only[cr,zC,zU];split
  .have:=KL (l:=g.vars) (n:=t.num) (y:=g.nodes.length);omega
  .omega
mutual
theorem pa:∀{g:Gr} (t:Tm),t.form=true->g.ok->(bK g t).1.ok
 |g,.mk k n s l,hf,h=>by
  rw[bK];split
  .exact h
  .exact L5 (λhk=>by have:=jO hf hk;exact⟨by have:=this.1;simp only[Tm.num] at this|-;omega,by have:=this.2.1;simp only[Tm.num] at this|-;omega⟩) (FR l (l8 hf) h)
theorem FR:∀{g:Gr} (l:List Tm),Tm.cd l=true->g.ok->(bJ g l).1.ok
 |g,[],_,h=>h
 |g,t::r,hf,h=>by
  simp only[Tm.cd,zD] at hf;simp only[bJ];exact FR r hf.2 (pa t hf.1 h)
end
theorem KF{N:Nat}:∀{up:List Nat} {k:Nat} {u:List Nat} {r:Nat},cO N up k=some (u,r)->r<up.length:=by
 induction N with
 |zero=>intro up k u r h;cases h
 |succ N ih=>
  intro up k u r h;simp only[cO] at h;split at h
  .cases h
  .rename_i p hp;split at h
   .cases h;exact(zB.1 hp).1
   .split at h
    .cases h
    .have:=ih h;rwa [zm] at this
theorem Gr.ok.upOf{g:Gr}(h:g.ok){u:List Nat}(hu:u.length=g.up.length):({g with up:=u}:Gr).ok:=⟨hu.trans h.up,h.fresh,h.nodup,h.ints,h.len⟩
theorem AY{g:Gr}{a b:Nat}(ha:a<g.up.length)(h:g.ok):(aR g a b).ok:=by
 have hp:∀v:Int,∀k:Int,(g.nodes.length:Int)<=k->lk (pt g.least a v) k=none:=λv k hk=>by
  rw[eI,if_neg (by have:=h.up;omega)];exact h.fresh k hk
 refine⟨by simp only[aR,zm];exact h.up,λk hk=>?_,h.nodup,h.ints,h.len⟩
 simp only[aR] at hk|-;split
 .exact h.fresh k hk
 .split
  .exact hp _ k hk
  .split
   .exact hp _ k hk
   .exact h.fresh k hk
theorem l6{N:Nat}:∀{f:Nat} {g g':Gr} {ps:List (Nat×Nat)} {b:Bool},eJ N f g ps=some (g',b)->g.ok->g'.ok/\g'.nodes=g.nodes
 |0,g,g',ps,b,h,_=>by cases h
 |f+1,g,g',ps,b,h,hg=>by
  simp only[eJ] at h;split at h
  .cases h;exact⟨hg,rfl⟩
  .split at h
   .cases h
   .rename_i u1 a h1;split at h
    .cases h
    .rename_i u2 b2 h2;have hl1:=dG h1;have hl2:=dG h2;have hg2:({g with up:=u2}:Gr).ok:=hg.upOf (by omega)
     have ha:a<u2.length:=by have:=KF h1;omega
     split at h
     .have:=l6 h hg2;exact this
     .split at h
      .split at h
       .split at h
        .split at h
         .have:=l6 h (AY (g:={g with up:=u2}) ha hg2);exact this
         .cases h
        .cases h;exact⟨hg2,rfl⟩
       .cases h
      .split at h
       .have:=l6 h (AY (g:={g with up:=u2}) ha hg2);exact this
       .cases h
theorem gq:∀(l:List Tm) (x:Tm),Tm.aj (l++[x])=Tm.aj l+x.nodes
 |[],x=>by simp[Tm.aj]
 |y::l,x=>by simp only[ze,Tm.aj,gq l x];omega
def gr0:Gr:=⟨[],[],[],[],[],[]⟩
theorem Li:gr0.ok:=⟨rfl,λk _=>rfl,List.nodup_nil,λe h=>(by cases h),zG _⟩
def Ca(N f:Nat):Gr->List (Tm×Tm)->Option (Gr×Bool)
 |g,[]=>some (g,true)
 |g,(x,y)::ps=>match eJ N f (bK (bK g x).1 y).1 [((bK g x).2,(bK (bK g x).1 y).2)] with
  |none=>none
  |some (g2,false)=>some (g2,false)
  |some (g2,true)=>Ca N f g2 ps
def Df(N f:Nat)(a b:List Tm):Option (List Bnd×Int):=
 if (a.all Tm.right&&b.all Tm.right)=true then
  if a.length=b.length then match Ca N f gr0 (a.zip b) with
   |none=>none
   |some (_,false)=>some ([],13)
   |some (g,true)=>mv N f g
  else some ([],9)
 else some ([],2)
theorem dw{t:Tm}(h:t.right=true):t.form=true:=(uX h).1
set_option maxHeartbeats 4000000 in
theorem OW{N f:Nat}{a b:List Tm}{out:List Bnd}{e:Int}(h:Df N f a b=some (out,e))(hN:Tm.aj a+Tm.aj b<=300000000):Fun Tryz.prog 113 [.sl .no (a.map Tm.av),.sl .no (b.map Tm.av)] (.tup [.sl .no (out.map Bnd.av),.int .i64 e]):=by
 have hla:=bO a;have hlb:=bO b;have hva:=vg a;have hvb:=vg b;unfold Df at h
 cases hra:a.all Tm.right with
 |false=>
  rw[hra] at h hva;cases h;refine Fun.of (iT (by simp) ?_) rfl rfl
  conv=>whnf
  repeat' (first|refine gF (aa.fn (hva) ?_)|(refine gC ?_;first|refine cY ?_|refine cN ?_|refine .not ?_)|refine ae.nrm ?_)<;>conv=>whnf
  rfl
 |true=>
  cases hrb:b.all Tm.right with
  |false=>
   rw[hra,hrb] at h;rw[hra] at hva;rw[hrb] at hvb;cases h;refine Fun.of (iT (by simp) ?_) rfl rfl
   conv=>whnf
   repeat' (first|(refine gF ?_;first|refine aa.fn (hva) ?_|refine aa.fn (hvb) ?_)|(refine gC ?_;first|refine cY ?_|refine cN ?_|refine .not ?_)|refine ae.nrm ?_)<;>conv=>whnf
   rfl
  |true=>
   rw[hra,hrb] at h;rw[hra] at hva;rw[hrb] at hvb;rw[if_pos (by rfl)] at h
   by_cases hl:a.length=b.length
   rotate_left
   .rw [if_neg hl] at h;cases h;refine Fun.of (iT (by simp) ?_) rfl rfl
    conv=>whnf
    repeat' (first|(refine gF ?_;first|refine aa.fn (hva) ?_|refine aa.fn (hvb) ?_)|(refine gC ?_;first|refine cY ?_|refine .not ?_|refine gD (cJ ?_))|refine gL (.map ?_)|refine ae.nrm ?_)<;>conv=>whnf
    rfl
   rw[if_pos hl] at h
   cases hR:Ca N f gr0 (a.zip b) with
   |none=>rw[hR] at h;cases h
   |some gb=>
    obtain⟨gr,br⟩:=gb;rw[hR] at h;refine Fun.of (iT (by simp) ?_) rfl rfl
    conv=>whnf
    repeat' (first|(refine gF ?_;first|refine aa.fn (hva) ?_|refine aa.fn (hvb) ?_|refine aa.to (Eh) ?_)|(refine gC ?_;first|refine cY ?_|refine .not ?_|refine gD (cI ?_))|refine gL (.map ?_))<;>conv=>whnf
    refine aD.by (fb:=true) (λ_ (q:Nat×Gr×Nat)=>⟨[(0,.sl .no (a.map Tm.av)),(1,.sl .no (b.map Tm.av)),(6,.ptr 0 0),(25,.int .i64 (a.length:Int)),(26,.int .i64 (q.1:Int))],q.2.1.bs q.2.2,0⟩) (λq=>q.1<=a.length/\Ca N f q.2.1 ((a.zip b).drop q.1)=some (gr,br)/\q.2.1.ok/\q.2.1.up.length<=q.2.2/\q.2.1.nodes.length<=Tm.aj (a.take q.1)+Tm.aj (b.take q.1)) (λq=>a.length-q.1) (0,gr0,0) ⟨zJ _,hR,Li,zG _,zJ _⟩ ?_ ?_
    .refine ah.Hc 4 0 5 (l:=[]) rfl (λy hy=>by cases hy) ?_
     conv=>whnf
     refine ah.dF (.bx 4 2) rfl rfl ?_
     conv=>whnf
     refine ah.lay [some 4,some 0,some 1,some 2,some 3,some 5] oko ?_
     conv=>whnf
     refine ah.at_ ?_ rfl
     conv=>whnf
     refine And.intro ?_ ?_<;>conv=>whnf
     all_goals repeat' (first|(refine gV ?_;first|refine vE ?_|refine vI ?_)|(refine gX ?_;first|refine xB ?_|(refine BxN.mk ?_ ?_;(focus (simp[AV.norm,AV.ax,cellsOf,gr0,mpE];done))))|exact True.intro)<;>conv=>whnf
    .rintro ⟨j,gj,cj⟩ ⟨q1,q2,q3,q4,q5⟩;dsimp only at q1 q2 q3 q4 q5|-
     by_cases hj:j<a.length
     .obtain ⟨x,hx⟩:∃x,a[j]? =some x:=⟨_,zA hj⟩;obtain⟨y,hy⟩:∃y,b[j]? =some y:=⟨_,zA (by omega)⟩
      have hz:(a.zip b)[j]? =some (x,y):=ZU.2 ⟨hx,hy⟩;have hzl:j<(a.zip b).length:=(zB.1 hz).1;rw[zH hzl,(zB.1 hz).2,Ca] at q2;have hxr:x.form=true:=dw (zS.1 hra x (zE hx));have hyr:y.form=true:=dw (zS.1 hrb y (zE hy));have hta:=bU a hx;have htb:=bU b hy;have htk:a.take (j+1)=a.take j++[x]:=by rw[ZC,hx];rfl
      have htk2:b.take (j+1)=b.take j++[y]:=by rw[ZC,hy];rfl
      have hup:=q3.up;have hok1:=pa x hxr q3;have hlen1:=mi gj x;have hadd:=L1 x (oM x hxr) gj cj q3.fresh q4 (by omega) (by omega)
      have hok2:=pa y hyr hok1;have hlen2:=mi (bK gj x).1 y;have hadd2:=λcp hcp=>L1 y (oM y hyr) (bK gj x).1 cp hok1.fresh hcp (by omega) (by have:=hok1.up;omega)
      unfold sO at hadd hadd2;generalize bK gj x=gx at q2 hok1 hlen1 hadd hok2 hlen2 hadd2;obtain⟨g1,k1⟩:=gx;dsimp only at q2 hok1 hlen1 hadd hok2 hlen2 hadd2;generalize bK g1 y=gy at q2 hok2 hlen2 hadd2;obtain⟨g2,k2⟩:=gy;dsimp only at q2 hok2 hlen2 hadd2
      conv=>whnf
      repeat' (first|refine gC (gD (cI ?_))|refine gI (gT (iA ?_)))<;>conv=>whnf
      refine aa.at [0,1,2,3,4,5] hadd rfl rfl ?_ oko ?_
      .rintro r bs' ⟨rfl,cp,hcp,rfl⟩;exact⟨rfl,rfl,oko⟩
      rintro r bs' ⟨rfl,cp,hcp,rfl⟩
      conv=>whnf
      repeat' refine gPr (pS ?_)<;>conv=>whnf
      refine aa.at [0,1,2,3,4,6] (hadd2 cp hcp) rfl rfl ?_ oko ?_
      .rintro r bs' ⟨rfl,cp,hcp,rfl⟩;exact⟨rfl,rfl,oko⟩
      rintro r bs' ⟨rfl,cp2,hcp2,rfl⟩
      conv=>whnf
      repeat' refine gPr (pS ?_)<;>conv=>whnf
      refine Nw.one fV (λ_=>⟨rfl,rfl⟩) (x:=(k1,k2)) rfl ?_
      conv=>whnf
      repeat' refine gPr (pT ?_)<;>conv=>whnf
      cases hjo:eJ N f g2 [(k1,k2)] with
      |none=>rw[hjo] at q2;cases q2
      |some gb2=>
       obtain⟨g3,b3⟩:=gb2;rw[hjo] at q2;have hgo:=l6 hjo hok2;have hcall:=MY (cap:=cp2) (capp:=1) (m:=1) hjo hcp2 rfl (zG _) (by simp)
       cases b3 with
       |false=>
        cases q2;cases h;refine aa.ate [0,1,2,3,4,7,8] hcall rfl rfl ?_
        conv=>whnf
        repeat' (refine gC ?_;first|refine cN ?_|refine .not ?_)<;>conv=>whnf
        refine ae.lay [] oko ?_
        conv=>whnf
        repeat' refine ae.nrm ?_<;>conv=>whnf
        rfl
       |true=>
        simp only at q2;refine aa.ate [0,1,2,3,4,7,8] hcall rfl rfl ?_
        conv=>whnf
        repeat' (first|(refine gC ?_;first|refine cY ?_|refine .not ?_)|refine gW (wI ?_))<;>conv=>whnf
        refine⟨(j+1,g3,cp2),⟨⟨hj,q2,hgo.1,?_,?_⟩,by show _-(j+1)<_-j;omega⟩,?_⟩
        .show g3.up.length<=cp2;have e1:=hgo.1.up;have e2:=hok2.up;rw[hgo.2] at e1;omega
        .show g3.nodes.length<=Tm.aj (a.take (j+1))+Tm.aj (b.take (j+1));rw[hgo.2,htk,htk2,gq,gq];omega
        dsimp only;refine ah.lay [some 0,some 1,some 2,some 3,some 4,some 7] oko ?_
        conv=>whnf
        exact aH
     .obtain rfl:j=a.length:=by omega
      rw[Zm (by rw[yV];omega),Ca] at q2
      cases q2;simp only at h;have hlen:=q3.len;rw[zl (zG _),zl (by omega)] at q5
      conv=>whnf
      repeat' refine gC (gD (cJ ?_))<;>conv=>whnf
      refine aa.at [0,1,2,3,4,5] (IZ (N:=N) (f:=f) h q4 (by omega) (by omega) q3.nodup q3.ints) rfl rfl ?_ oko ?_
      .rintro r bs' ⟨rfl,g2,rfl⟩;exact⟨rfl,rfl,oko⟩
      rintro r bs' ⟨rfl,g2,rfl⟩
      conv=>whnf
      skip;refine ae.lay [] oko ?_
      conv=>whnf
      repeat' refine ae.nrm ?_<;>conv=>whnf
theorem L8{N f:Nat}{a b:Tm}{out:List Bnd}{e:Int}(h:Df N f [a] [b]=some (out,e))(hN:a.nodes+b.nodes<=300000000):Fun Tryz.prog 90 [a.avw,b.avw] (.tup [.sl .no (out.map Bnd.av),.int .i64 e]):=by
 have ha:=OW h (by simp only[Tm.aj];omega)
 simp only[zP,Zf,Tm.xL] at ha;refine Fun.of (wh (by simp) ?_) rfl rfl
 conv=>whnf
 repeat' (first|refine gF (aa.fn (ha) ?_)|refine ae.nrm ?_)<;>conv=>whnf
def eA(e:Int):Bool:=decide (e=0)||decide (e=6)
theorem Dj{N f:Nat}{a b:Tm}{out:List Bnd}{e:Int}(h:Df N f [a] [b]=some (out,e))(hN:a.nodes+b.nodes<=300000000):Fun Tryz.prog 59 [a.avw,b.avw] (.bool (eA e)):=by
 have ha:=L8 h hN;refine Fun.of (qt (by simp) ?_) rfl rfl
 conv=>whnf
 repeat' (first|refine gF (aa.fn (ha) ?_)|(refine gC ?_;first|(refine gD ?_;first|refine cI ?_|refine cJ ?_)|refine al.dec (λhc=>?_) (λhc=>?_))|refine ae.nrm ?_)<;>conv=>whnf
 all_goals (simp[eA, *])
end Go.CK
