/-
  Texts of this aQ joined (wip/gen/bundle.py),those declarations only that are needed:UnP UnV UnG. By an AI agent.
-/
import Derived.Test.YtahnpgfkkngimaaGreatBay
import Derived.Lib.SpaceUEq
set_option linter.unusedSimpArgs false
set_option linter.unusedVariables false
set_option maxRecDepth 100000
namespace Go.CK
open Go.AM Go.Proofs
def EG(s:ByteArray):Bool:=decide (s=⟨⟨[99,111,110,115,116,114,97,105,110,116]⟩⟩)||(decide (s=⟨⟨[116,114,117,101]⟩⟩)||(decide (s=⟨⟨[102,97,105,108]⟩⟩)||(decide (s=⟨⟨[105,115]⟩⟩)||(decide (s=⟨⟨[105,110,116]⟩⟩)||decide (s=⟨⟨[103,114,111,117,110,100]⟩⟩)))))
theorem zR(s:ByteArray):Fun Tryz.prog 166 [.str s] (.bool (EG s)):=by
 refine Fun.of (qV (by simp) ?_) rfl rfl
 conv=>whnf
 repeat' (first|(refine gC ?_;first|refine gD (cI ?_)|refine aq.dec (λhc=>?_) (λhc=>?_))|refine af.nrm ?_)<;>conv=>whnf
 all_goals (simp[EG, *])
theorem AR(s:ByteArray):∀(f pos:Nat),s.size<=pos+f->(Lib.idxFuncFrom l4 true s f pos<0↔∀i,pos<=i->i<s.size->bX (s.get! i).toNat≠0)
 |0,pos,h=>⟨λ_ i h1 h2=>by omega,λ_=>by rw[Lib.idxFuncFrom];decide⟩
 |f+1,pos,h=>by
  rw[Lib.idxFuncFrom]
  by_cases hp:pos<s.size
  .rw [if_pos hp];have hd:=Lib.decode_at s pos;rcases Lib.decodeN_cases (s.size-pos) (s.get! pos).toNat (s.get! (pos+1)).toNat (s.get! (pos+2)).toNat (s.get! (pos+3)).toNat with ⟨h1,h2⟩|h2
   .rw [hd,h2]
    by_cases hc:bX (s.get! pos).toNat=0
    .have hb:l4 (s.get! pos).toNat=true:=by unfold l4;rw[decide_eq_true hc,Bool.or_true]
     rw[if_pos hb];exact⟨λe=>by omega,λe=>absurd hc (e pos (ZG _) hp)⟩
    .have hle:¬122<(s.get! pos).toNat:=by
      intro hlt;apply hc;unfold bX;rw[if_neg (by omega),if_neg (by omega),if_neg (by omega)]
     have hb:l4 (s.get! pos).toNat=false:=by unfold l4;rw[decide_eq_false hle,decide_eq_false hc];rfl
     rw[if_neg (by rw[hb];decide),AR s f (pos+1) (by omega)]
     refine⟨λe i h3 h4=>?_,λe i h3 h4=>e i (by omega) h4⟩
     rcases Nat.eq_or_lt_of_le h3 with h5|h5
     .rw [<-h5];exact hc
     .exact e i h5 h4
   .have hr:128<=(Utf8.decode s pos).1/\¬(s.get! pos).toNat<128\/(s.get! pos).toNat<128:=by
     by_cases hb:(s.get! pos).toNat<128
     .exact .inr hb
     .refine .inl ⟨?_,hb⟩;rw[hd];rcases h2 with ⟨_,_,_,h5,h6⟩|⟨_,_,_,_,h5,h6⟩|⟨h6,_⟩|h6
      .rw [h6];exact h5
      .rw [h6];show 128<=_;omega
      .omega
      .rw [h6];decide
    rcases hr with ⟨hr,hb⟩|hb
    .have hbr:l4 (Utf8.decode s pos).1=true:=by unfold l4;rw[decide_eq_true (by omega:122<_)];rfl
     rw[if_pos hbr];have hc:bX (s.get! pos).toNat=0:=by unfold bX;rw[if_neg (by omega),if_neg (by omega),if_neg (by omega)]
     exact⟨λe=>by omega,λe=>absurd hc (e pos (ZG _) hp)⟩
    .exfalso;have:Lib.decodeN (s.size-pos) (s.get! pos).toNat (s.get! (pos+1)).toNat (s.get! (pos+2)).toNat (s.get! (pos+3)).toNat=((s.get! pos).toNat,1):=by unfold Lib.decodeN;rw[if_pos hb]
     rw[this] at h2;rcases h2 with ⟨h3,_⟩|⟨h3,_⟩|⟨h3,_⟩|h6
     .omega
     .omega
     .dsimp only at h3;omega
     .have:=congrArg Prod.fst h6;simp only at this;omega
  .rw [if_neg hp];exact⟨λ_ i h1 h2=>by omega,λ_=>by decide⟩
def ow(s:ByteArray):Bool:=decide (1<=s.size/\s.size<=40/\∀i,i<s.size->bX (s.get! i).toNat≠0)
theorem AZ(s:ByteArray){i:Nat}(h:i+1<s.size):(s.extract 1 s.size).get! i=s.get! (i+1):=by
 show (s.extract 1 s.size).data[i]! =s.data[i+1]!;have h2:i+1<s.data.size:=h;have hd:(s.extract 1 s.size).data=s.data.extract 1 s.size:=by simp
 have h3:i<(s.data.extract 1 s.size).size:=by
  rw[Array.size_extract];show i<min s.data.size s.data.size-1;omega
 rw[hd,getElem!_pos s.data (i+1) h2,getElem!_pos _ i h3,Array.getElem_extract];congr 1;omega
theorem FM(s:ByteArray):mJ s=(ow s&&decide (bX (s.get! 0).toNat=1)):=by
 unfold mJ ow;rw[Bool.eq_iff_iff];simp only[ZD,decide_eq_true_eq];have hsz:(s.extract 1 s.size).size=s.size-1:=by simp
 rw[show Lib.idxFunc l4 true (s.extract 1 s.size)=Lib.idxFuncFrom l4 true (s.extract 1 s.size) (s.extract 1 s.size).size 0 from rfl,AR _ _ 0 (by omega),hsz]
 constructor
 .rintro ⟨⟨h1,h2⟩,h3,h4⟩;refine⟨⟨h1,h2,λi hi=>?_⟩,h3⟩
  cases i with
  |zero=>rw[h3];decide
  |succ i=>
   rw[<-AZ s hi];exact h4 i (ZJ _) (by omega)
 .rintro ⟨⟨h1,h2,h4⟩,h3⟩;refine⟨⟨h1,h2⟩,h3,λi _ hi=>?_⟩;rw[AZ s (by omega)]
  exact h4 (i+1) (by omega)
theorem Ia(s:ByteArray):Fun Tryz.prog 165 [.str s,.int .u8 1] (.bool (mJ s)):=by
 refine Fun.DB (λM σ n=>.flat (.bool _)) λM σ n w args hM hal hv=>?_
 obtain⟨v1,v2,rfl⟩:∃v1 v2,args=[v1,v2]:=by
  match args,hal with
  |[v1,v2],_=>exact⟨v1,v2,rfl⟩
 have h1:=hv 0 (by simp) v1 rfl
 have h2:=hv 1 (by simp) v2 rfl
 simp only[YP,Yj] at h1 h2;obtain⟨rfl,hs⟩:=h1.dG;obtain rfl:=h2.aC;exact FL s (by ((try unfold glim at hs);(try unfold lim at hs));omega) w
def mf(s:ByteArray):Bool:=mJ s&&!EG s
theorem Gq(s:ByteArray):Fun Tryz.prog 130 [.str s] (.bool (mf s)):=by
 refine Fun.of (wo (by simp) ?_) rfl rfl
 conv=>whnf
 repeat' (first|(refine gF ?_;first|refine ab.fn (Ia _) ?_|refine ab.fn (zR _) ?_)|(refine gC ?_;first|refine cYa ?_|refine cNa ?_|refine aq.any (λhc=>?_) (λhc=>?_))|refine af.nrm ?_)<;>conv=>whnf
 all_goals (simp[mf, *])
def eR(s:ByteArray):Bool:=decide (s=⟨⟨[43]⟩⟩)||(decide (s=⟨⟨[45]⟩⟩)||(decide (s=⟨⟨[42]⟩⟩)||(decide (s=⟨⟨[47]⟩⟩)||decide (s=⟨⟨[37]⟩⟩))))
theorem IE{s:ByteArray}(h:¬s.size=1):eR s=false:=by
 unfold eR;rw[decide_eq_false (by rintro rfl;exact h rfl),decide_eq_false (by rintro rfl;exact h rfl),decide_eq_false (by rintro rfl;exact h rfl),decide_eq_false (by rintro rfl;exact h rfl),decide_eq_false (by rintro rfl;exact h rfl)]
 rfl
theorem GF(c:UInt8):decide (0<=Lib.indexByte (⟨⟨[43,45,42,47,37]⟩⟩:ByteArray).data.toList c)=eR ⟨⟨[c]⟩⟩:=by
 have e:∀d:UInt8,decide ((⟨⟨[c]⟩⟩:ByteArray)=⟨⟨[d]⟩⟩)=decide (c=d):=λd=>by rw[decide_eq_decide];simp
 unfold eR;rw[e,e,e,e,e];simp only[Lib.indexByte]
 by_cases h1:c=43
 .subst h1;decide
 .by_cases h2:c=45
  .subst h2;decide
  .by_cases h3:c=42
   .subst h3;decide
   .by_cases h4:c=47
    .subst h4;decide
    .by_cases h5:c=37
     .subst h5;decide
     .have f:∀d:UInt8,¬c=d->(d==c)=false:=λd h=>by rw[beq_eq_false_iff_ne];exact λe=>h e.symm
      simp[h1,h2,h3,h4,h5,f 43 h1,f 45 h2,f 42 h3,f 47 h4,f 37 h5]
theorem ID(s:ByteArray):Fun Tryz.prog 140 [.str s] (.bool (eR s)):=by
 by_cases h1:s.size=1
 .obtain ⟨c,rfl⟩:∃c,s=⟨⟨[c]⟩⟩:=by
   obtain⟨⟨l⟩⟩:=s
   match l,h1 with
   |[c],_=>exact⟨c,rfl⟩
  refine Fun.of (kE (by simp) ?_) rfl rfl
  conv=>whnf
  repeat' (first|refine gF (ab.fn (Bg _ _) ?_)|refine gC (gD (cI ?_))|refine af.nrm ?_)<;>conv=>whnf
  all_goals (refine congrArg AV.bool ?_;exact GF c)
 .refine Fun.of (kE (by simp) ?_) rfl rfl
  conv=>whnf
  repeat' (first|refine gC (gD (cJ ?_))|refine af.nrm ?_)<;>conv=>whnf
  all_goals (refine congrArg AV.bool ?_;exact(IE h1).symm)
theorem uk(c:Nat):Fun Tryz.prog 138 [.int .u8 (c:Int)] (.bool (decide (97<=c/\c<=122))):=by
 refine Fun.of (jP (by simp) ?_) rfl rfl
 conv=>whnf
 repeat' (first|(refine gC ?_;first|(refine gD ?_;first|refine cI ?_|refine cJ ?_)|refine aq.le (λhc=>?_) (λhc=>?_))|refine af.nrm ?_)<;>conv=>whnf
 all_goals (refine congrArg AV.bool ?_;first|rfl|(rw[decide_eq_decide];omega)|(symm;rw[decide_eq_true_iff];omega)|(symm;rw[decide_eq_false_iff_not];omega))
theorem zy(c:Nat):Fun Tryz.prog 169 [.int .u8 (c:Int)] (.bool (decide (65<=c/\c<=90))):=by
 refine Fun.of (jO (by simp) ?_) rfl rfl
 conv=>whnf
 repeat' (first|(refine gC ?_;first|(refine gD ?_;first|refine cI ?_|refine cJ ?_)|refine aq.le (λhc=>?_) (λhc=>?_))|refine af.nrm ?_)<;>conv=>whnf
 all_goals (refine congrArg AV.bool ?_;first|rfl|(rw[decide_eq_decide];omega)|(symm;rw[decide_eq_true_iff];omega)|(symm;rw[decide_eq_false_iff_not];omega))
theorem yx(s:ByteArray):Fun Tryz.prog 139 [.str s] (.bool (EG s)):=by
 refine Fun.of (fX (by simp) ?_) rfl rfl
 conv=>whnf
 repeat' (first|(refine gC ?_;first|refine cY ?_|(refine gD ?_;first|refine cI ?_|refine cJ ?_)|refine aq.dec (λhc=>?_) (λhc=>?_))|refine af.nrm ?_)<;>conv=>whnf
 all_goals (simp[EG, *])
theorem GG(s:ByteArray):Fun Tryz.prog 135 [.str s] (.bool (eR s)):=by
 refine Fun.of (fY (by simp) ?_) rfl rfl
 conv=>whnf
 repeat' (first|(refine gC ?_;first|refine cY ?_|(refine gD ?_;first|refine cI ?_|refine cJ ?_)|refine aq.dec (λhc=>?_) (λhc=>?_))|refine af.nrm ?_)<;>conv=>whnf
 all_goals (simp[eR, *])
theorem DU{s:ByteArray}{j:Nat}(h:j<s.size):s[j]? =some (s.get! j):=by
 rw[getElem?_pos s j h];congr 1;exact(getElem!_pos s.data j h).symm
theorem Fj(c:Nat):(bX c=0/\(¬(97<=c/\c<=122)/\¬(65<=c/\c<=90)/\¬c=95/\¬(48<=c/\c<=57)))\/(bX c≠0/\((97<=c/\c<=122)\/(65<=c/\c<=90)\/c=95\/(48<=c/\c<=57))):=by
 unfold bX
 by_cases h1:97<=c/\c<=122
 .exact .inr ⟨by rw[if_pos h1];decide,.inl h1⟩
 .by_cases h2:(65<=c/\c<=90)\/c=95
  .exact .inr ⟨by rw[if_neg h1,if_pos h2];decide,h2.elim (λh=>.inr (.inl h)) λh=>.inr (.inr (.inl h))⟩
  .by_cases h3:48<=c/\c<=57
   .exact .inr ⟨by rw[if_neg h1,if_neg h2,if_pos h3];decide,.inr (.inr (.inr h3))⟩
   .exact .inl ⟨by rw[if_neg h1,if_neg h2,if_neg h3],h1,λh=>h2 (.inl h),λh=>h2 (.inr h),h3⟩
theorem zu(s:ByteArray):Fun Tryz.prog 137 [.str s] (.bool (ow s)):=by
 refine Fun.assume rfl λhg0=>?_;have hsz:s.size<=9223372036854775807:=AU (hg0 (.str s) (by simp))
 refine Fun.of (kK (by simp) ?_) rfl rfl
 conv=>whnf
 skip;refine aw.by (fb:=true) (λ_ (j:Nat)=>⟨[(0,.str s),(3,.int .i64 (j:Int))],[],0⟩) (λj=>j<=s.size/\∀i,i<j->bX (s.get! i).toNat≠0) (λj=>s.size-j) 0 ⟨ZJ _,λi h=>by omega⟩ ?_ ?_
 .exact au
 .rintro j ⟨q1,q2⟩
  by_cases hj:j<s.size
  .obtain ⟨y,hy⟩:∃y,y=s.get! j:=⟨_,rfl⟩;have hx:s[((j:Nat):Int).toNat]? =some y:=by rw[Ys,hy];exact DU hj
   have hbad:bX y.toNat=0->false=ow s:=λh=>by
    unfold ow;symm;rw[decide_eq_false_iff_not];rintro⟨_,_,h3⟩;exact h3 j hj (by rw[<-hy];exact h)
   obtain⟨c,hcy⟩:∃c,c=y.toNat:=⟨_,rfl⟩;rw[<-hcy] at hbad;rcases Fj c with ⟨hc,h1⟩|⟨hc,h1⟩
   .conv=>whnf
    repeat' (first|(refine gF ?_;first|refine ab.fn (uk _) ?_|refine ab.fn (zy _) ?_)|(refine gC ?_;first|refine cY ?_|refine .not ?_|(refine gD ?_;first|refine cI ?_|refine cJ ?_)|refine aq.lt (λhc=>?_) (λhc=>?_))|refine af.nrm ?_|refine gIs (iS ?_))<;>conv=>whnf
    all_goals (exact congrArg AV.bool (hbad (by assumption)))
   .conv=>whnf
    repeat' (first|(refine gF ?_;first|refine ab.fn (uk _) ?_|refine ab.fn (zy _) ?_)|(refine gC ?_;first|refine cN ?_|refine .not ?_|(refine gD ?_;first|refine cI ?_|refine cJ ?_)|refine aq.lt (λhc=>?_) (λhc=>?_)|refine aq.dec (λhc=>?_) (λhc=>?_))|refine gW (wI ?_)|refine gIs (iS ?_))<;>conv=>whnf
    all_goals
     refine⟨j+1,⟨⟨hj,λi hi=>?_⟩,by omega⟩,?_⟩
     .rcases Zs i j with h3|h3
      .exact q2 i h3
      .obtain rfl:i=j:=by omega
       rw[<-hy,<-hcy];assumption
     exact au
  .have hall:ow s=decide (1<=s.size/\s.size<=40):=by
    unfold ow;rw[decide_eq_decide];exact⟨λh=>⟨h.1,h.2.1⟩,λh=>⟨h.1,h.2,λi hi=>q2 i (by omega)⟩⟩
   rw[hall]
   conv=>whnf
   repeat' (first|(refine gC ?_;first|(refine gD ?_;first|refine cI ?_|refine cJ ?_)|refine aq.le (λhc=>?_) (λhc=>?_))|refine af.nrm ?_)<;>conv=>whnf
   all_goals (refine congrArg AV.bool ?_;first|rfl|(rw[decide_eq_decide];omega)|(symm;rw[decide_eq_true_iff];omega)|(symm;rw[decide_eq_false_iff_not];omega))
end Go.CK
namespace Go.CK
open Go.AM Go.Proofs
theorem Ja(c:Nat):decide (97<=c/\c<=122)=decide (bX c=1):=by
 rw[decide_eq_decide];unfold bX
 by_cases h1:97<=c/\c<=122
 .rw [if_pos h1];exact⟨λ_=>rfl,λ_=>h1⟩
 .rw [if_neg h1];refine⟨λh=>absurd h h1,λh=>?_⟩;split at h
  .cases h
  .split at h<;>cases h
theorem EF(s:ByteArray):Fun Tryz.prog 108 [.str s] (.bool (mf s)):=by
 have he:mf s=(ow s&&(decide (bX (s.get! 0).toNat=1)&&!EG s)):=by rw[mf,FM,Bool.and_assoc]
 rw[he]
 cases hw:ow s with
 |false=>
  have hwo:Fun Tryz.prog 137 [.str s] (.bool false):=by rw[<-hw];exact zu s
  refine Fun.of (dx (by simp) ?_) rfl rfl
  conv=>whnf
  repeat' (first|refine gF (ab.fn (hwo) ?_)|refine gC (cN ?_)|refine af.nrm ?_)<;>conv=>whnf
  all_goals rfl
 |true=>
  have hwo:Fun Tryz.prog 137 [.str s] (.bool true):=by rw[<-hw];exact zu s
  have h1:1<=s.size:=by unfold ow at hw;exact(of_decide_eq_true hw).1
  obtain⟨y,hy⟩:∃y,y=s.get! 0:=⟨_,rfl⟩;have hx:s[(0:Int).toNat]? =some y:=by rw[hy];exact DU (by omega)
  rw[<-hy,<-Ja];refine Fun.of (dx (by simp) ?_) rfl rfl
  conv=>whnf
  repeat' (first|(refine gF ?_;first|refine ab.fn (hwo) ?_|refine ab.fn (uk _) ?_|refine ab.fn (yx _) ?_)|(refine gC ?_;first|refine cY ?_|(refine gD ?_;first|refine cI ?_|refine cJ ?_)|refine aq.dec (λhc=>?_) (λhc=>?_))|refine af.nrm ?_|refine gIs (iS ?_))<;>conv=>whnf
  all_goals (clear hy;refine congrArg AV.bool ?_;simp[*])
mutual
def Tm.form:Tm->Bool
 |.mk k n s l=>if k=0 then decide (-2147483648<=n/\n<=2147483648/\s=⟨⟨[]⟩⟩/\l.length=0)
  else if k=1 then decide (0<=n/\n<=1048576/\s=⟨⟨[]⟩⟩/\l.length=0)
  else if k=2 then decide (n=0/\l.length<=6)&&((mf s||(eR s&&decide (l.length=2)))&&Tm.bN l)
  else false
def Tm.bN:List Tm->Bool
 |[]=>true
 |t::r=>t.form&&Tm.bN r
end
mutual
def Tm.sz:Tm->Nat
 |.mk k _ _ l=>1+(if k=2 then Tm.szs l else 0)
def Tm.szs:List Tm->Nat
 |[]=>0
 |t::r=>t.sz+Tm.szs r
end
mutual
def Tm.dep:Tm->Nat
 |.mk k _ _ l=>(if k=2 then Tm.eE l else 0)+1
def Tm.eE:List Tm->Nat
 |[]=>0
 |t::r=>max t.dep (Tm.eE r)
end
def vB(n d:Int)(t:Tm):Bool:=t.form&&decide ((t.sz:Int)<=n/\(t.dep:Int)<=d)
def vLB(n d:Int)(l:List Tm):Bool:=Tm.bN l&&decide ((Tm.szs l:Int)<=n/\(Tm.eE l:Int)<=d)
def Tm.right(t:Tm):Bool:=vB 200 20 t
theorem pD:∀(l:List Tm) (x:Tm),Tm.szs (l++[x])=Tm.szs l+x.sz
 |[],x=>by simp[Tm.szs]
 |y::l,x=>by simp only[Ze,Tm.szs,pD l x];omega
theorem iw:∀(l:List Tm) (x:Tm),Tm.bN (l++[x])=(Tm.bN l&&x.form)
 |[],x=>by simp[Tm.bN]
 |y::l,x=>by simp only[Ze,Tm.bN,iw l x,Bool.and_assoc]
theorem rO:∀(l:List Tm) (x:Tm),Tm.eE (l++[x])=max (Tm.eE l) x.dep
 |[],x=>by simp[Tm.eE]
 |y::l,x=>by simp only[Ze,Tm.eE,rO l x];omega
theorem te:∀(l:List Tm) {j:Nat} {x:Tm},l[j]? =some x->Tm.szs (l.take j)+x.sz<=Tm.szs l
 |y::l,0,x,h=>by simp at h;subst h;simp only[YJ,Tm.szs];omega
 |y::l,j+1,x,h=>by
  have:=te l (j:=j) (x:=x) (by simpa using h)
  simp only[XN,Tm.szs];omega
 |[],j,x,h=>by simp at h
theorem rH:∀{l:List Tm} {x:Tm},Tm.bN l=true->x∈l->x.form=true
 |y::l,x,h,hm=>by
  simp only[Tm.bN,ZD] at h;rcases ZI.1 hm with rfl|hm
  .exact h.1
  .exact rH h.2 hm
theorem u0:∀{l:List Tm} {x:Tm},x∈l->x.dep<=Tm.eE l
 |y::l,x,hm=>by
  simp only[Tm.eE];rcases ZI.1 hm with rfl|hm
  .omega
  .have:=u0 hm;omega
theorem Eo{n d:Int}{l:List Tm}{j:Nat}{x:Tm}(hx:l[j]? =some x)(h:vB (n-Tm.szs (l.take j)) d x=false):vLB n d l=false:=by
 rw[Bool.eq_false_iff];intro hv;unfold vLB at hv;rw[ZD,decide_eq_true_eq] at hv;obtain⟨h1,h2,h3⟩:=hv;have hm:=ZE hx;have h4:=te l hx;have h5:=u0 hm;unfold vB at h;rw[rH h1 hm,Za,decide_eq_false_iff_not] at h;apply h;omega
theorem Dg{n d:Int}{t:Tm}(h:vB n d t=true):t.form=true/\(t.sz:Int)<=n/\(t.dep:Int)<=d:=by
 unfold vB at h;rw[ZD,decide_eq_true_eq] at h;exact h
theorem pF{t:Tm}(h:¬t.kind=2):t.sz=1:=by
 obtain⟨k,i,s,l⟩:=t;simp only[Tm.kind] at h;rw[Tm.sz,if_neg h]
theorem qo{t:Tm}(h:¬t.kind=2):t.dep=1:=by
 obtain⟨k,i,s,l⟩:=t;simp only[Tm.kind] at h;rw[Tm.dep,if_neg h]
theorem mM{t:Tm}(h:t.kind=2):t.sz=1+Tm.szs t.args:=by
 obtain⟨k,i,s,l⟩:=t;simp only[Tm.kind] at h;rw[Tm.sz,if_pos h];rfl
theorem ja{t:Tm}(h:t.kind=2):t.dep=Tm.eE t.args+1:=by
 obtain⟨k,i,s,l⟩:=t;simp only[Tm.kind] at h;rw[Tm.dep,if_pos h];rfl
theorem uL{t:Tm}(h:t.kind=0):t.form=decide (-2147483648<=t.num/\t.num<=2147483648/\t.name=⟨⟨[]⟩⟩/\t.args.length=0):=by
 obtain⟨k,i,s,l⟩:=t;simp only[Tm.kind] at h;rw[Tm.form,if_pos h];rfl
theorem pj{t:Tm}(h:t.kind=1):t.form=decide (0<=t.num/\t.num<=1048576/\t.name=⟨⟨[]⟩⟩/\t.args.length=0):=by
 obtain⟨k,i,s,l⟩:=t;simp only[Tm.kind] at h;rw[Tm.form,if_neg (by omega),if_pos h];rfl
theorem rI{t:Tm}(h:t.kind=2):t.form=(decide (t.num=0/\t.args.length<=6)&&((mf t.name||(eR t.name&&decide (t.args.length=2)))&&Tm.bN t.args)):=by
 obtain⟨k,i,s,l⟩:=t;simp only[Tm.kind] at h;rw[Tm.form,if_neg (by omega),if_neg (by omega),if_pos h];rfl
theorem uK{t:Tm}(h0:¬t.kind=0)(h1:¬t.kind=1)(h2:¬t.kind=2):t.form=false:=by
 obtain⟨k,i,s,l⟩:=t;simp only[Tm.kind] at h0 h1 h2;rw[Tm.form,if_neg h0,if_neg h1,if_neg h2]
theorem yj(t:Tm):1<=t.sz:=by obtain⟨k,i,s,l⟩:=t;rw[Tm.sz];omega
theorem og(t:Tm):1<=t.dep:=by obtain⟨k,i,s,l⟩:=t;rw[Tm.dep];omega
theorem FU{n d:Int}{t:Tm}(h:n<1\/d<1):vB n d t=false:=by
 have h1:=yj t;have h2:=og t;unfold vB;rw[decide_eq_false (by omega),Bool.and_false]
theorem yh{n d:Int}{t:Tm}(h:¬t.kind=2)(hn:1<=n)(hd:1<=d):vB n d t=t.form:=by
 unfold vB;rw[pF h,qo h,decide_eq_true (by omega),Bool.and_true]
theorem JM{n d:Int}{t:Tm}(h:t.kind=2):vB n d t=(decide (t.num=0/\t.args.length<=6)&&((mf t.name||(eR t.name&&decide (t.args.length=2)))&&vLB (n-1) (d-1) t.args)):=by
 unfold vB vLB
 have e:decide ((t.sz:Int)<=n/\(t.dep:Int)<=d)=decide ((Tm.szs t.args:Int)<=n-1/\(Tm.eE t.args:Int)<=d-1):=by
  rw[decide_eq_decide,mM h,ja h];omega
 rw[rI h,e,Bool.and_assoc,Bool.and_assoc]
def rY(n:Int)(b:Bool)(k:Nat)(r:AV)(bs':List Box):Prop:=r=.bool b/\∃m:Int,bs'=[.cells [.int .i64 m]]/\(b=true->m=n-k)
theorem yg{n d:Int}{t:Tm}{bs:List Box}{m:Int}(hb:bs=[.cells [.int .i64 m]])(h:vB n d t=false):rY n (vB n d t) t.sz (.bool false) bs:=⟨by rw[h],m,hb,by rw[h];intro e;cases e⟩
theorem FR{n d:Int}{t:Tm}{b:Bool}{bs:List Box}(hk:¬t.kind=2)(hb:bs=[.cells [.int .i64 (n-1)]])(h:vB n d t=b):rY n (vB n d t) t.sz (.bool b) bs:=⟨by rw[h],n-1,hb,by rw[pF hk];intro _;rfl⟩
set_option maxHeartbeats 1000000 in
theorem HQ{l:List Tm}{n d:Int}(hn:0<=n/\n<=200)(hd:0<=d/\d<=20)(hl:l.length<=9223372036854775807)(h:∀x∈l,∀n:Int,0<=n->n<=200->AM.Sem Tryz.prog 109 [.ptr 0 0,x.avw,.int .i64 d] [.cells [.int .i64 n]] (rY n (vB n d x) x.sz)):AM.Sem Tryz.prog 96 [.ptr 0 0,.sl .no (l.map Tm.av),.int .i64 d] [.cells [.int .i64 n]] (rY n (vLB n d l) (Tm.szs l)):=by
 refine mY (by simp) ?_
 conv=>whnf
 repeat' refine gL (.map ?_)<;>conv=>whnf
 refine aw.by (fb:=true) (λ_ (q:Nat×Int)=>⟨[(0,.ptr 0 0),(1,.sl .no (l.map Tm.av)),(2,.int .i64 d),(9,.int .i64 (l.length:Int)),(10,.int .i64 (q.1:Int))],[.cells [.int .i64 q.2]],1⟩) (λq=>q.1<=l.length/\q.2=n-Tm.szs (l.take q.1)/\0<=q.2/\vLB n d (l.take q.1)=true) (λq=>l.length-q.1) (0,n) ⟨ZJ _,by simp[Tm.szs],hn.1,by simp[vLB,Tm.bN,Tm.szs,Tm.eE];omega⟩ ?_ ?_
 .exact au
 .rintro ⟨j,m⟩ ⟨q1,q2,q3,q4⟩;dsimp only at q1 q2 q3 q4|-
  by_cases hj:j<l.length
  .obtain ⟨x,hx⟩:∃x,l[j]? =some x:=⟨_,ZA hj⟩;have htk:l.take (j+1)=l.take j++[x]:=by rw[Zz,hx];rfl
   have hcall:=h x (ZE hx) m q3 (by omega)
   conv=>whnf
   repeat' (first|refine gC (gD (cI ?_))|refine gI (gT (iA ?_)))<;>conv=>whnf
   cases hb:vB m d x with
   |false=>
    rw[hb] at hcall;refine ab.at [0] hcall rfl rfl ?_ oko ?_
    .rintro r bs' ⟨rfl,m',rfl,_⟩;exact⟨rfl,rfl,oko⟩
    rintro r bs' ⟨rfl,m',rfl,_⟩
    conv=>whnf
    repeat' (refine gC ?_;first|refine cN ?_|refine .not ?_)<;>conv=>whnf
    conv=>whnf
    repeat' refine af.nrm ?_<;>conv=>whnf
    have:=Eo (n:=n) (d:=d) hx (by rw[<-q2];exact hb)
    exact⟨by rw[this],m',rfl,by rw[this];intro e;cases e⟩
   |true=>
    rw[hb] at hcall;refine ab.at [0] hcall rfl rfl ?_ oko ?_
    .rintro r bs' ⟨rfl,m',rfl,_⟩;exact⟨rfl,rfl,oko⟩
    rintro r bs' ⟨rfl,m',rfl,hm'⟩;have hm':=hm' rfl;obtain⟨b1,b2,b3⟩:=Dg hb
    conv=>whnf
    repeat' (first|(refine gC ?_;first|refine cY ?_|refine .not ?_)|refine gW (wI ?_))<;>conv=>whnf
    refine⟨(j+1,m'),⟨⟨hj,by show m'=n-Tm.szs (l.take (j+1));rw[htk,pD];omega,by show 0<=m';omega,?_⟩,by show _-(j+1)<_-j;omega⟩,?_⟩
    .show vLB n d (l.take (j+1))=true;unfold vLB at q4|-;rw[ZD,decide_eq_true_eq] at q4|-;rw[htk,iw,pD,rO,q4.1,b1];exact⟨rfl,by omega,by omega⟩
    exact au
  .obtain rfl:j=l.length:=by omega
   rw[Zl (ZG _)] at q2 q4
   conv=>whnf
   repeat' refine gC (gD (cJ ?_))<;>conv=>whnf
   conv=>whnf
   repeat' refine af.nrm ?_<;>conv=>whnf
   exact⟨by rw[q4],m,rfl,λ_=>q2⟩
set_option maxHeartbeats 1000000 in
theorem FQ(t:Tm):∀n d:Int,0<=n->n<=200->0<=d->d<=20->AM.Sem Tryz.prog 109 [.ptr 0 0,t.avw,.int .i64 d] [.cells [.int .i64 n]] (rY n (vB n d t) t.sz):=by
 induction t using Tm.bD with
 |h k i s l ih=>
 intro n d hn hn2 hd hd2;generalize ha:Tm.mk k i s l=t;replace ih:∀x∈t.args,∀n d:Int,0<=n->n<=200->0<=d->d<=20->AM.Sem Tryz.prog 109 [.ptr 0 0,x.avw,.int .i64 d] [.cells [.int .i64 n]] (rY n (vB n d x) x.sz):=by subst ha;exact ih
 clear ha;refine Sem.assume λhg0 _=>?_;have hg:=(oe (hg0 t.avw (by simp) rfl)).2.1
 refine lJ (by simp) ?_
 by_cases hlow:n<1\/d<1
 .by_cases h1:n<1
  .conv=>whnf
   repeat' (first|(refine gC ?_;first|refine cY ?_|refine gD (cI ?_))|refine gW (wI ?_))<;>conv=>whnf
   refine af.lay [some 0] oko ?_
   conv=>whnf
   repeat' refine af.nrm ?_<;>conv=>whnf
   exact yg rfl (FU hlow)
  .have h2:d<1:=hlow.resolve_left h1
   conv=>whnf
   repeat' (first|(refine gC ?_;(refine gD ?_;first|refine cI ?_|refine cJ ?_))|refine gW (wI ?_))<;>conv=>whnf
   refine af.lay [some 0] oko ?_
   conv=>whnf
   repeat' refine af.nrm ?_<;>conv=>whnf
   exact yg rfl (FU hlow)
 .have h1:¬n<1:=λe=>hlow (.inl e);have h2:¬d<1:=λe=>hlow (.inr e)
  by_cases hk2:t.kind=2
  .rw [show rY n (vB n d t) t.sz=rY n (decide (t.num=0/\t.args.length<=6)&&((mf t.name||(eR t.name&&decide (t.args.length=2)))&&vLB (n-1) (d-1) t.args)) t.sz by rw[JM hk2]]
   by_cases h3:t.num=0/\t.args.length<=6
   rotate_left
   .rw [decide_eq_false h3,Zu]
    by_cases h4:t.num=0
    .have h5:¬t.args.length<=6:=λe=>h3 ⟨h4,e⟩
     conv=>whnf
     repeat' (first|(refine gC ?_;first|refine .not ?_|(refine gD ?_;first|refine cI ?_|refine cJ ?_))|refine gW (wI ?_)|refine gL (.map ?_))<;>conv=>whnf
     refine af.lay [some 0] oko ?_
     conv=>whnf
     repeat' refine af.nrm ?_<;>conv=>whnf
     exact⟨rfl,_,rfl,λe=>by cases e⟩
    .conv=>whnf
     repeat' (first|(refine gC ?_;first|refine cY ?_|refine .not ?_|(refine gD ?_;first|refine cI ?_|refine cJ ?_))|refine gW (wI ?_))<;>conv=>whnf
     refine af.lay [some 0] oko ?_
     conv=>whnf
     repeat' refine af.nrm ?_<;>conv=>whnf
     exact⟨rfl,_,rfl,λe=>by cases e⟩
   obtain⟨h4,h5⟩:=h3;rw[decide_eq_true (show t.num=0/\t.args.length<=6 from ⟨h4,h5⟩),Za];have hro:=Gq t.name;have hoo:=ID t.name
   cases hnr:mf t.name with
   |true=>
    rw[hnr] at hro;rw[Bool.true_or,Za]
    conv=>whnf
    repeat' (first|refine gF (ab.fn (hro) ?_)|(refine gC ?_;first|refine cY ?_|refine cN ?_|refine .not ?_|(refine gD ?_;first|refine cI ?_|refine cJ ?_))|refine gW (wI ?_)|refine gL (.map ?_))<;>conv=>whnf
    refine ab.at [0] (HQ (l:=t.args) (n:=n-1) (d:=d-1) ⟨by omega,by omega⟩ ⟨by omega,by omega⟩ hg λx hx m hm hm2=>ih x hx m (d-1) hm hm2 (by omega) (by omega)) rfl rfl ?_ oko ?_
    .rintro r bs' ⟨rfl,m',rfl,_⟩;exact⟨rfl,rfl,oko⟩
    rintro r bs' ⟨rfl,m',rfl,hm'⟩
    conv=>whnf
    skip;refine af.lay [some 0] oko ?_
    conv=>whnf
    repeat' refine af.nrm ?_<;>conv=>whnf
    exact⟨rfl,m',rfl,λe=>by rw[hm' e,mM hk2];omega⟩
   |false=>
    rw[hnr] at hro;rw[Bool.false_or]
    cases hop:eR t.name with
    |false=>
     rw[hop] at hoo;rw[Zu,Zu]
     conv=>whnf
     repeat' (first|(refine gF ?_;first|refine ab.fn (hro) ?_|refine ab.fn (hoo) ?_)|(refine gC ?_;first|refine cN ?_|refine .not ?_|(refine gD ?_;first|refine cI ?_|refine cJ ?_))|refine gW (wI ?_)|refine gL (.map ?_))<;>conv=>whnf
     refine af.lay [some 0] oko ?_
     conv=>whnf
     repeat' refine af.nrm ?_<;>conv=>whnf
     exact⟨rfl,_,rfl,λe=>by cases e⟩
    |true=>
     rw[hop] at hoo;rw[Za]
     by_cases h6:t.args.length=2
     .rw [decide_eq_true h6,Za]
      conv=>whnf
      repeat' (first|(refine gF ?_;first|refine ab.fn (hro) ?_|refine ab.fn (hoo) ?_)|(refine gC ?_;first|refine cY ?_|refine cN ?_|refine .not ?_|(refine gD ?_;first|refine cI ?_|refine cJ ?_))|refine gW (wI ?_)|refine gL (.map ?_))<;>conv=>whnf
      refine ab.at [0] (HQ (l:=t.args) (n:=n-1) (d:=d-1) ⟨by omega,by omega⟩ ⟨by omega,by omega⟩ hg λx hx m hm hm2=>ih x hx m (d-1) hm hm2 (by omega) (by omega)) rfl rfl ?_ oko ?_
      .rintro r bs' ⟨rfl,m',rfl,_⟩;exact⟨rfl,rfl,oko⟩
      rintro r bs' ⟨rfl,m',rfl,hm'⟩
      conv=>whnf
      skip;refine af.lay [some 0] oko ?_
      conv=>whnf
      repeat' refine af.nrm ?_<;>conv=>whnf
      exact⟨rfl,m',rfl,λe=>by rw[hm' e,mM hk2];omega⟩
     .rw [decide_eq_false h6,Zu]
      conv=>whnf
      repeat' (first|(refine gF ?_;first|refine ab.fn (hro) ?_|refine ab.fn (hoo) ?_)|(refine gC ?_;first|refine cY ?_|refine cN ?_|refine .not ?_|(refine gD ?_;first|refine cI ?_|refine cJ ?_))|refine gW (wI ?_)|refine gL (.map ?_))<;>conv=>whnf
      refine af.lay [some 0] oko ?_
      conv=>whnf
      repeat' refine af.nrm ?_<;>conv=>whnf
      exact⟨rfl,_,rfl,λe=>by cases e⟩
  .by_cases hk0:t.kind=0
   .conv=>whnf
    repeat' (first|(refine gC ?_;first|refine cN ?_|(refine gD ?_;first|refine cI ?_|refine cJ ?_)|refine aq.le (λhc=>?_) (λhc=>?_)|refine aq.dec (λhc=>?_) (λhc=>?_))|refine gW (wI ?_)|refine gL (.map ?_))<;>conv=>whnf
    all_goals
     refine af.lay [some 0] oko ?_
     conv=>whnf
     repeat' refine af.nrm ?_<;>conv=>whnf
     refine FR hk2 rfl ?_;rw[yh hk2 (by omega) (by omega),uL hk0]
     first
      |(rw[decide_eq_decide];exact⟨λh=>by omega,λh=>⟨by omega,by omega,by assumption,by omega⟩⟩)
      |(rw[decide_eq_false_iff_not];rintro⟨e1,e2,e3,e4⟩;first|omega|contradiction)
      |(rw[decide_eq_true_iff];exact⟨by omega,by omega,by assumption,by omega⟩)
   .by_cases hk1:t.kind=1
    .conv=>whnf
     repeat' (first|(refine gC ?_;first|refine cN ?_|(refine gD ?_;first|refine cI ?_|refine cJ ?_)|refine aq.le (λhc=>?_) (λhc=>?_)|refine aq.dec (λhc=>?_) (λhc=>?_))|refine gW (wI ?_)|refine gL (.map ?_))<;>conv=>whnf
     all_goals
      refine af.lay [some 0] oko ?_
      conv=>whnf
      repeat' refine af.nrm ?_<;>conv=>whnf
      refine FR hk2 rfl ?_;rw[yh hk2 (by omega) (by omega),pj hk1]
      first
       |(rw[decide_eq_decide];exact⟨λh=>by omega,λh=>⟨by omega,by omega,by assumption,by omega⟩⟩)
       |(rw[decide_eq_false_iff_not];rintro⟨e1,e2,e3,e4⟩;first|omega|contradiction)
       |(rw[decide_eq_true_iff];exact⟨by omega,by omega,by assumption,by omega⟩)
    .conv=>whnf
     repeat' (first|refine gC (gD (cJ ?_))|refine gW (wI ?_))<;>conv=>whnf
     refine af.lay [some 0] oko ?_
     conv=>whnf
     repeat' refine af.nrm ?_<;>conv=>whnf
     exact yg rfl (by rw[yh hk2 (by omega) (by omega),uK hk0 hk1 hk2])
theorem fP(t:Tm):Fun Tryz.prog 78 [t.avw] (.bool t.right):=by
 refine Fun.of (wm (by simp) ?_) rfl rfl
 conv=>whnf
 skip;refine ab.at [1] (FQ t 200 20 (by decide) (by decide) (by decide) (by decide)) rfl rfl ?_ oko ?_
 .rintro r bs' ⟨rfl,m',rfl,_⟩;exact⟨rfl,rfl,oko⟩
 rintro r bs' ⟨rfl,m',rfl,hm'⟩
 conv=>whnf
 skip
 conv=>whnf
 repeat' refine af.nrm ?_<;>conv=>whnf
 rfl
theorem En(t:Tm):Fun Tryz.prog 143 [t.avw] (.bool (!t.right)):=by
 refine Fun.of (qT (by simp) ?_) rfl rfl
 conv=>whnf
 repeat' (first|refine gF (ab.fn (fP _) ?_)|refine af.nrm ?_)<;>conv=>whnf
def iL:List Tm->Nat->Int
 |[],_=>-1
 |t::r,j=>if t.right then iL r (j+1) else (j:Int)
theorem vW(l:List Tm):Fun Tryz.prog 171 [.sl .no (l.map Tm.av),.fn (.func 143) [] []] (.int .i64 (iL l 0)):=by
 refine Fun.of (Sem.assume λhg0 _=>?_) rfl rfl;have hg:=(bH (hg0 (.sl .no (l.map Tm.av)) (by simp) rfl)).1
 refine dg (by simp) ?_
 conv=>whnf
 repeat' refine gL (.map ?_)<;>conv=>whnf
 refine aw.by (fb:=true) (λ_ (j:Nat)=>⟨[(0,.sl .no (l.map Tm.av)),(1,.fn (.func 143) [] []),(7,.int .i64 (l.length:Int)),(8,.int .i64 (j:Int))],[],0⟩) (λj=>j<=l.length/\iL (l.drop j) j=iL l 0) (λj=>l.length-j) 0 ⟨ZJ _,rfl⟩ ?_ ?_
 .exact au
 .rintro j ⟨q1,q2⟩
  by_cases hj:j<l.length
  .obtain ⟨x,hx⟩:∃x,l[j]? =some x:=⟨_,ZA hj⟩;rw[ZH hj,(ZB.1 hx).2,iL] at q2;have h1:=En x
   cases hr:x.right with
   |false=>
    rw[hr] at h1 q2;rw[<-q2]
    conv=>whnf
    repeat' (first|refine gF (ab.fn (h1) ?_)|(refine gC ?_;first|refine cN ?_|refine .not ?_|refine gD (cI ?_))|refine gI (gT (iA ?_))|refine gH (hB ?_)|refine af.nrm ?_)<;>conv=>whnf
    rfl
   |true=>
    rw[hr] at h1 q2
    conv=>whnf
    repeat' (first|refine gF (ab.fn (h1) ?_)|(refine gC ?_;first|refine cY ?_|refine .not ?_|refine gD (cI ?_))|refine gW (wI ?_)|refine gI (gT (iA ?_))|refine gH (hB ?_))<;>conv=>whnf
    refine⟨j+1,⟨⟨hj,q2⟩,by omega⟩,?_⟩
    exact au
  .obtain rfl:j=l.length:=by omega
   rw[Zj,iL] at q2;rw[<-q2]
   conv=>whnf
   repeat' (first|refine gC (gD (cJ ?_))|refine af.nrm ?_)<;>conv=>whnf
theorem rW:∀(l:List Tm) (j:Nat),decide (0<=iL l j)=!l.all Tm.right
 |[],j=>rfl
 |t::r,j=>by
  rw[iL,Yp]
  cases h:t.right with
  |true=>rw[if_pos rfl,rW r (j+1),Za]
  |false=>rw[if_neg YY];simp
theorem td(l:List Tm):Fun Tryz.prog 111 [.sl .no (l.map Tm.av)] (.bool (l.all Tm.right)):=by
 have hc:Fun Tryz.prog 142 [.sl .no (l.map Tm.av),.fn (.func 143) [] []] (.bool (!l.all Tm.right)):=by
  rw[<-rW l 0];refine Fun.of (cO (by simp) ?_) rfl rfl
  conv=>whnf
  repeat' (first|refine gF (ab.fn (vW l) ?_)|refine af.nrm ?_)<;>conv=>whnf
 refine Fun.of (tO (by simp) ?_) rfl rfl
 conv=>whnf
 repeat' (first|refine gF (ab.fn (hc) ?_)|refine af.nrm ?_)<;>conv=>whnf
 exact congrArg AV.bool (Bool.not_not _)
end Go.CK
namespace Go.CK
open Go.AM Go.Proofs
theorem Al:AM.Sem Tryz.prog 112 [] [] λr bs'=>r=.ptr 4 0/\bs'=[.mp [],.mp [],.mp [],.mp [],.cells [.sl .full [],.mpt 0,.sl .full [],.mpt 1,.mpt 2,.mpt 3]]:=by
 refine pW (by simp) ?_
 conv=>whnf
 repeat' refine af.nrm ?_<;>conv=>whnf
 exact⟨rfl,rfl⟩
theorem Gx{β:Type}:∀{l:List (Int×β)} {n:Int} {y:β} {e:Int×β},e∈pt l n y->e=(n,y)\/e∈l
 |[],n,y,e,h=>by simp[pt] at h;exact .inl h
 |(k,x)::l,n,y,e,h=>by
  simp only[pt] at h;split at h
  .rename_i hk;rcases ZI.1 h with rfl|h
   .exact .inl (by rw[hk])
   .exact .inr (ZQ _ h)
  .rcases ZI.1 h with rfl|h
   .exact .inr (ZV ..)
   .rcases Gx h with h|h
    .exact .inl h
    .exact .inr (ZQ _ h)
theorem Dz{β:Type}:∀{l:List (Int×β)} {n k:Int} {y:β},k∈(pt l n y).map (·.1)↔k=n\/k∈l.map (·.1)
 |[],n,k,y=>by simp[pt]
 |(j,x)::l,n,k,y=>by
  simp only[pt];split
  .rename_i hk;subst hk;simp
  .simp only[ZP,ZI,Dz (l:=l)];constructor
   .rintro (h|h|h)<;>simp[h]
   .rintro (h|h|h)<;>simp[h]
theorem Aa{β:Type}:∀{l:List (Int×β)} {n:Int} {y:β},(l.map (·.1)).Nodup->((pt l n y).map (·.1)).Nodup
 |[],n,y,_=>by simp[pt]
 |(k,x)::l,n,y,h=>by
  simp only[ZP,Ye] at h;simp only[pt];split
  .simp only[ZP,Ye];exact h
  .rename_i hk;simp only[ZP,Ye];refine⟨λe=>?_,Aa h.2⟩;rcases Dz.1 e with e|e
   .exact hk e.symm
   .exact h.1 e
theorem Gy{β:Type}:∀{l:List (Int×β)} {n:Int} {y:β},(pt l n y).length<=l.length+1
 |[],n,y=>by simp[pt]
 |(k,x)::l,n,y=>by
  simp only[pt];split
  .simp
  .simp only[ZX];have:=Gy (l:=l) (n:=n) (y:=y);omega
structure Gr.ok(g:Gr):Prop where
 up:g.up.length=g.nodes.length
 fresh:g.fresh
 nodup:(g.vars.map (·.1)).Nodup
 ints:∀e∈g.vars,bW e.1
 len:g.vars.length<=g.nodes.length
theorem gQ{t:Tm}(h:t.form=true):Tm.bN t.args=true:=by
 by_cases h0:t.kind=0
 .rw [uL h0,decide_eq_true_eq] at h;rw[ZL h.2.2.2];rfl
 .by_cases h1:t.kind=1
  .rw [pj h1,decide_eq_true_eq] at h;rw[ZL h.2.2.2];rfl
  .by_cases h2:t.kind=2
   .rw [rI h2] at h;simp only[ZD] at h;exact h.2.2
   .rw [uK h0 h1 h2] at h;cases h
theorem ix{t:Tm}(h:t.form=true)(hk:t.kind=1):0<=t.num/\t.num<=1048576/\t.args=[]:=by
 rw[pj hk,decide_eq_true_eq] at h;exact⟨h.1,h.2.1,ZL h.2.2.2⟩
mutual
theorem nu:∀(t:Tm),t.form=true->t.Vok
 |.mk k n s l,h=>⟨λhk=>(ix h hk).2.2,xL l (gQ h)⟩
theorem xL:∀(l:List Tm),Tm.bN l=true->Tm.H3 l
 |[],_=>trivial
 |t::r,h=>by
  simp only[Tm.bN,ZD] at h;exact⟨nu t h.1,xL r h.2⟩
end
theorem H0{g:Gr}{t:Tm}{l:List Nat}(ht:t.kind=1->bW t.num)(h:g.ok):(bR g t l).ok:=by
 refine⟨?_,vG h.fresh,?_,?_,?_⟩
 .simp only[bR,ZC,ZU,h.up]
 .simp only[bR];split
  .exact Aa h.nodup
  .exact h.nodup
 .simp only[bR];split
  .intro e he;rcases Gx he with rfl|he
   .exact ht (by assumption)
   .exact h.ints e he
  .exact h.ints
 .have:=h.len;simp only[bR,ZC,ZU];split
  .have:=Gy (l:=g.vars) (n:=t.num) (y:=g.nodes.length);omega
  .omega
mutual
theorem nN:∀{g:Gr} (t:Tm),t.form=true->g.ok->(bC g t).1.ok
 |g,.mk k n s l,hf,h=>by
  rw[bC];split
  .exact h
  .exact H0 (λhk=>by have:=ix hf hk;exact⟨by have:=this.1;simp only[Tm.num] at this|-;omega,by have:=this.2.1;simp only[Tm.num] at this|-;omega⟩) (BS l (gQ hf) h)
theorem BS:∀{g:Gr} (l:List Tm),Tm.bN l=true->g.ok->(bB g l).1.ok
 |g,[],_,h=>h
 |g,t::r,hf,h=>by
  simp only[Tm.bN,ZD] at hf;simp only[bB];exact BS r hf.2 (nN t hf.1 h)
end
theorem Gp{N:Nat}:∀{up:List Nat} {k:Nat} {u:List Nat} {r:Nat},ct N up k=some (u,r)->r<up.length:=by
 induction N with
 |zero=>intro up k u r h;cases h
 |succ N ih=>
  intro up k u r h;simp only[ct] at h;split at h
  .cases h
  .rename_i p hp;split at h
   .cases h;exact(ZB.1 hp).1
   .split at h
    .cases h
    .have:=ih h;rwa [Zm] at this
theorem Gr.ok.upOf{g:Gr}(h:g.ok){u:List Nat}(hu:u.length=g.up.length):({g with up:=u}:Gr).ok:=⟨hu.trans h.up,h.fresh,h.nodup,h.ints,h.len⟩
theorem xr{g:Gr}{a b:Nat}(ha:a<g.up.length)(h:g.ok):(aK g a b).ok:=by
 have hp:∀v:Int,∀k:Int,(g.nodes.length:Int)<=k->lk (pt g.least a v) k=none:=λv k hk=>by
  rw[dC,if_neg (by have:=h.up;omega)];exact h.fresh k hk
 refine⟨by simp only[aK,Zm];exact h.up,λk hk=>?_,h.nodup,h.ints,h.len⟩
 simp only[aK] at hk|-;split
 .exact h.fresh k hk
 .split
  .exact hp _ k hk
  .split
   .exact hp _ k hk
   .exact h.fresh k hk
theorem kS{N:Nat}:∀{f:Nat} {g g':Gr} {ps:List (Nat×Nat)} {b:Bool},dQ N f g ps=some (g',b)->g.ok->g'.ok/\g'.nodes=g.nodes
 |0,g,g',ps,b,h,_=>by cases h
 |f+1,g,g',ps,b,h,hg=>by
  simp only[dQ] at h;split at h
  .cases h;exact⟨hg,rfl⟩
  .split at h
   .cases h
   .rename_i u1 a h1;split at h
    .cases h
    .rename_i u2 b2 h2;have hl1:=dc h1;have hl2:=dc h2;have hg2:({g with up:=u2}:Gr).ok:=hg.upOf (by omega)
     have ha:a<u2.length:=by have:=Gp h1;omega
     split at h
     .have:=kS h hg2;exact this
     .split at h
      .split at h
       .split at h
        .split at h
         .have:=kS h (xr (g:={g with up:=u2}) ha hg2);exact this
         .cases h
        .cases h;exact⟨hg2,rfl⟩
       .cases h
      .split at h
       .have:=kS h (xr (g:={g with up:=u2}) ha hg2);exact this
       .cases h
theorem cX:∀(l:List Tm) (x:Tm),Tm.ai (l++[x])=Tm.ai l+x.nodes
 |[],x=>by simp[Tm.ai]
 |y::l,x=>by simp only[Ze,Tm.ai,cX l x];omega
def gr0:Gr:=⟨[],[],[],[],[],[]⟩
theorem Hg:gr0.ok:=⟨rfl,λk _=>rfl,List.nodup_nil,λe h=>(by cases h),ZG _⟩
def vY(N f:Nat):Gr->List (Tm×Tm)->Option (Gr×Bool)
 |g,[]=>some (g,true)
 |g,(x,y)::ps=>match dQ N f (bC (bC g x).1 y).1 [((bC g x).2,(bC (bC g x).1 y).2)] with
  |none=>none
  |some (g2,false)=>some (g2,false)
  |some (g2,true)=>vY N f g2 ps
def wH(N f:Nat)(a b:List Tm):Option (List Bnd×Int):=
 if (a.all Tm.right&&b.all Tm.right)=true then
  if a.length=b.length then match vY N f gr0 (a.zip b) with
   |none=>none
   |some (_,false)=>some ([],13)
   |some (g,true)=>fQ N f g
  else some ([],9)
 else some ([],2)
theorem cU{t:Tm}(h:t.right=true):t.form=true:=(Dg h).1
set_option maxHeartbeats 4000000 in
theorem KN{N f:Nat}{a b:List Tm}{out:List Bnd}{e:Int}(h:wH N f a b=some (out,e))(hN:Tm.ai a+Tm.ai b<=300000000):Fun Tryz.prog 82 [.sl .no (a.map Tm.av),.sl .no (b.map Tm.av)] (.tup [.sl .no (out.map Bnd.av),.int .i64 e]):=by
 have hla:=bF a;have hlb:=bF b;have hva:=td a;have hvb:=td b;unfold wH at h
 cases hra:a.all Tm.right with
 |false=>
  rw[hra] at h hva;cases h;refine Fun.of (fW (by simp) ?_) rfl rfl
  conv=>whnf
  repeat' (first|refine gF (ab.fn (hva) ?_)|(refine gC ?_;first|refine cY ?_|refine cN ?_|refine .not ?_)|refine af.nrm ?_)<;>conv=>whnf
  rfl
 |true=>
  cases hrb:b.all Tm.right with
  |false=>
   rw[hra,hrb] at h;rw[hra] at hva;rw[hrb] at hvb;cases h;refine Fun.of (fW (by simp) ?_) rfl rfl
   conv=>whnf
   repeat' (first|(refine gF ?_;first|refine ab.fn (hva) ?_|refine ab.fn (hvb) ?_)|(refine gC ?_;first|refine cY ?_|refine cN ?_|refine .not ?_)|refine af.nrm ?_)<;>conv=>whnf
   rfl
  |true=>
   rw[hra,hrb] at h;rw[hra] at hva;rw[hrb] at hvb;rw[if_pos (by rfl)] at h
   by_cases hl:a.length=b.length
   rotate_left
   .rw [if_neg hl] at h;cases h;refine Fun.of (fW (by simp) ?_) rfl rfl
    conv=>whnf
    repeat' (first|(refine gF ?_;first|refine ab.fn (hva) ?_|refine ab.fn (hvb) ?_)|(refine gC ?_;first|refine cY ?_|refine .not ?_|refine gD (cJ ?_))|refine gL (.map ?_)|refine af.nrm ?_)<;>conv=>whnf
    rfl
   rw[if_pos hl] at h
   cases hR:vY N f gr0 (a.zip b) with
   |none=>rw[hR] at h;cases h
   |some gb=>
    obtain⟨gr,br⟩:=gb;rw[hR] at h;refine Fun.of (fW (by simp) ?_) rfl rfl
    conv=>whnf
    repeat' (first|(refine gF ?_;first|refine ab.fn (hva) ?_|refine ab.fn (hvb) ?_|refine ab.to (Al) ?_)|(refine gC ?_;first|refine cY ?_|refine .not ?_|refine gD (cI ?_))|refine gL (.map ?_))<;>conv=>whnf
    refine aw.by (fb:=true) (λ_ (q:Nat×Gr×Nat)=>⟨[(0,.sl .no (a.map Tm.av)),(1,.sl .no (b.map Tm.av)),(6,.ptr 0 0),(25,.int .i64 (a.length:Int)),(26,.int .i64 (q.1:Int))],q.2.1.bs q.2.2,0⟩) (λq=>q.1<=a.length/\vY N f q.2.1 ((a.zip b).drop q.1)=some (gr,br)/\q.2.1.ok/\q.2.1.up.length<=q.2.2/\q.2.1.nodes.length<=Tm.ai (a.take q.1)+Tm.ai (b.take q.1)) (λq=>a.length-q.1) (0,gr0,0) ⟨ZJ _,hR,Hg,ZG _,ZJ _⟩ ?_ ?_
    .refine ah.C2 4 0 5 (l:=[]) rfl (λy hy=>by cases hy) ?_
     conv=>whnf
     refine ah.cx (.bx 4 2) rfl rfl ?_
     conv=>whnf
     refine ah.lay [some 4,some 0,some 1,some 2,some 3,some 5] oko ?_
     conv=>whnf
     refine ah.at_ ?_ rfl
     conv=>whnf
     refine And.intro ?_ ?_<;>conv=>whnf
     all_goals repeat' (first|(refine gV ?_;first|refine vE ?_|refine vI ?_)|(refine gX ?_;first|refine xB ?_|(refine BxN.mk ?_ ?_;(focus (simp[AV.norm,AV.aD,cellsOf,gr0,mpE];done))))|exact True.intro)<;>conv=>whnf
    .rintro ⟨j,gj,cj⟩ ⟨q1,q2,q3,q4,q5⟩;dsimp only at q1 q2 q3 q4 q5|-
     by_cases hj:j<a.length
     .obtain ⟨x,hx⟩:∃x,a[j]? =some x:=⟨_,ZA hj⟩;obtain⟨y,hy⟩:∃y,b[j]? =some y:=⟨_,ZA (by omega)⟩
      have hz:(a.zip b)[j]? =some (x,y):=YS.2 ⟨hx,hy⟩;have hzl:j<(a.zip b).length:=(ZB.1 hz).1;rw[ZH hzl,(ZB.1 hz).2,vY] at q2;have hxr:x.form=true:=cU (ZS.1 hra x (ZE hx));have hyr:y.form=true:=cU (ZS.1 hrb y (ZE hy));have hta:=bI a hx;have htb:=bI b hy;have htk:a.take (j+1)=a.take j++[x]:=by rw[Zz,hx];rfl
      have htk2:b.take (j+1)=b.take j++[y]:=by rw[Zz,hy];rfl
      have hup:=q3.up;have hok1:=nN x hxr q3;have hlen1:=lf gj x;have hadd:=HX x (nu x hxr) gj cj q3.fresh q4 (by omega) (by omega)
      have hok2:=nN y hyr hok1;have hlen2:=lf (bC gj x).1 y;have hadd2:=λcp hcp=>HX y (nu y hyr) (bC gj x).1 cp hok1.fresh hcp (by omega) (by have:=hok1.up;omega)
      unfold qu at hadd hadd2;generalize bC gj x=gx at q2 hok1 hlen1 hadd hok2 hlen2 hadd2;obtain⟨g1,k1⟩:=gx;dsimp only at q2 hok1 hlen1 hadd hok2 hlen2 hadd2;generalize bC g1 y=gy at q2 hok2 hlen2 hadd2;obtain⟨g2,k2⟩:=gy;dsimp only at q2 hok2 hlen2 hadd2
      conv=>whnf
      repeat' (first|refine gC (gD (cI ?_))|refine gI (gT (iA ?_)))<;>conv=>whnf
      refine ab.at [0,1,2,3,4,5] hadd rfl rfl ?_ oko ?_
      .rintro r bs' ⟨rfl,cp,hcp,rfl⟩;exact⟨rfl,rfl,oko⟩
      rintro r bs' ⟨rfl,cp,hcp,rfl⟩
      conv=>whnf
      repeat' refine gPr (pS ?_)<;>conv=>whnf
      refine ab.at [0,1,2,3,4,6] (hadd2 cp hcp) rfl rfl ?_ oko ?_
      .rintro r bs' ⟨rfl,cp,hcp,rfl⟩;exact⟨rfl,rfl,oko⟩
      rintro r bs' ⟨rfl,cp2,hcp2,rfl⟩
      conv=>whnf
      repeat' refine gPr (pS ?_)<;>conv=>whnf
      refine Js.one ff (λ_=>⟨rfl,rfl⟩) (x:=(k1,k2)) rfl ?_
      conv=>whnf
      repeat' refine gPr (pT ?_)<;>conv=>whnf
      cases hjo:dQ N f g2 [(k1,k2)] with
      |none=>rw[hjo] at q2;cases q2
      |some gb2=>
       obtain⟨g3,b3⟩:=gb2;rw[hjo] at q2;have hgo:=kS hjo hok2;have hcall:=I0 (cap:=cp2) (capp:=1) (m:=1) hjo hcp2 rfl (ZG _) (by simp)
       cases b3 with
       |false=>
        cases q2;cases h;refine ab.ate [0,1,2,3,4,7,8] hcall rfl rfl ?_
        conv=>whnf
        repeat' (refine gC ?_;first|refine cN ?_|refine .not ?_)<;>conv=>whnf
        refine af.lay [] oko ?_
        conv=>whnf
        repeat' refine af.nrm ?_<;>conv=>whnf
        rfl
       |true=>
        simp only at q2;refine ab.ate [0,1,2,3,4,7,8] hcall rfl rfl ?_
        conv=>whnf
        repeat' (first|(refine gC ?_;first|refine cY ?_|refine .not ?_)|refine gW (wI ?_))<;>conv=>whnf
        refine⟨(j+1,g3,cp2),⟨⟨hj,q2,hgo.1,?_,?_⟩,by show _-(j+1)<_-j;omega⟩,?_⟩
        .show g3.up.length<=cp2;have e1:=hgo.1.up;have e2:=hok2.up;rw[hgo.2] at e1;omega
        .show g3.nodes.length<=Tm.ai (a.take (j+1))+Tm.ai (b.take (j+1));rw[hgo.2,htk,htk2,cX,cX];omega
        dsimp only;refine ah.lay [some 0,some 1,some 2,some 3,some 4,some 7] oko ?_
        conv=>whnf
        exact au
     .obtain rfl:j=a.length:=by omega
      rw[Yk (by rw[XT];omega),vY] at q2
      cases q2;simp only at h;have hlen:=q3.len;rw[Zl (ZG _),Zl (by omega)] at q5
      conv=>whnf
      repeat' refine gC (gD (cJ ?_))<;>conv=>whnf
      refine ab.at [0,1,2,3,4,5] (Ew (N:=N) (f:=f) h q4 (by omega) (by omega) q3.nodup q3.ints) rfl rfl ?_ oko ?_
      .rintro r bs' ⟨rfl,g2,rfl⟩;exact⟨rfl,rfl,oko⟩
      rintro r bs' ⟨rfl,g2,rfl⟩
      conv=>whnf
      skip;refine af.lay [] oko ?_
      conv=>whnf
      repeat' refine af.nrm ?_<;>conv=>whnf
theorem OK{N f:Nat}{a b:Tm}{out:List Bnd}{e:Int}(h:wH N f [a] [b]=some (out,e))(hN:a.nodes+b.nodes<=300000000):Fun Tryz.prog 98 [a.avw,b.avw] (.tup [.sl .no (out.map Bnd.av),.int .i64 e]):=by
 have ha:=KN h (by simp only[Tm.ai];omega)
 simp only[ZP,Yd,Tm.nK] at ha;refine Fun.of (Nt (by simp) ?_) rfl rfl
 conv=>whnf
 repeat' (first|refine gF (ab.fn (ha) ?_)|refine af.nrm ?_)<;>conv=>whnf
def L7(e:Int):Bool:=decide (e=0)||decide (e=6)
theorem ML{N f:Nat}{a b:Tm}{out:List Bnd}{e:Int}(h:wH N f [a] [b]=some (out,e))(hN:a.nodes+b.nodes<=300000000):Fun Tryz.prog 60 [a.avw,b.avw] (.bool (L7 e)):=by
 have ha:=OK h hN;refine Fun.of (MX (by simp) ?_) rfl rfl
 conv=>whnf
 repeat' (first|refine gF (ab.fn (ha) ?_)|(refine gC ?_;first|(refine gD ?_;first|refine cI ?_|refine cJ ?_)|refine aq.dec (λhc=>?_) (λhc=>?_))|refine af.nrm ?_)<;>conv=>whnf
 all_goals (simp[L7, *])
end Go.CK
