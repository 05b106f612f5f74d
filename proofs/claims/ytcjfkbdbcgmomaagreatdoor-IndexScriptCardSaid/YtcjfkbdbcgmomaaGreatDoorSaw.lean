/-
  Texts of this aV joined (wip/gen/bundle.py),those declarations only that are needed:UnN UnP UnV. By an AI agent.
-/
import Derived.Test.YtcjfkbdbcgmomaaGreatDoorSav
import Derived.BigQuiet
import Derived.StillTailTactics
import Derived.Deep.RegionHeld3
import Derived.KernelRfl
import Derived.Lib.SpaceUEq
set_option linter.unusedSimpArgs false
set_option linter.unusedVariables false
set_option maxRecDepth 100000
namespace Go.CK
open Go.RowKit Go.Proofs
def cc(c:Nat):Nat:=if 97<=c/\c<=122 then 1 else if (65<=c/\c<=90)\/c=95 then 2 else if 48<=c/\c<=57 then 4 else 0
set_option maxHeartbeats 1000000 in
theorem G5(c:Nat)(w:World):Calls Tryz.prog 195 #[.int .u8 (c:Int)] w λe w'=>e=.returned (.int .u8 (cc c:Int))/\w'=w:=by
 have d:∀(p:Prop) [Decidable p],p->decide p=true:=λp _ h=>decide_eq_true h
 by_cases h1:(97:Int)<=c
 .by_cases h2:(c:Int)<=122
  .have hv:cc c=1:=by unfold cc;rw[if_pos ⟨by omega,by omega⟩]
   rw[hv]
   go_enter Tryz.func195,Tryz.ntmps195
   go_wp2_with fail
   go_ret
   exact⟨rfl,rfl⟩
  .have hv:cc c=0:=by unfold cc;rw[if_neg (by omega),if_neg (by omega),if_neg (by omega)]
   rw[hv];have h3:(65:Int)<=c:=by omega
   have h4:¬(c:Int)<=90:=by omega
   have h5:¬(c:Int)=95:=by omega
   have h6:(48:Int)<=c:=by omega
   have h7:¬(c:Int)<=57:=by omega
   go_enter Tryz.func195,Tryz.ntmps195
   go_wp2_with fail
   go_ret
   exact⟨rfl,rfl⟩
 .by_cases h3:(65:Int)<=c
  .by_cases h4:(c:Int)<=90
   .have hv:cc c=2:=by unfold cc;rw[if_neg (by omega),if_pos (by omega)]
    rw[hv]
    go_enter Tryz.func195,Tryz.ntmps195
    go_wp2_with fail
    go_ret
    exact⟨rfl,rfl⟩
   .by_cases h5:(c:Int)=95
    .have hv:cc c=2:=by unfold cc;rw[if_neg (by omega),if_pos (by omega)]
     rw[hv]
     go_enter Tryz.func195,Tryz.ntmps195
     go_wp2_with fail
     go_ret
     exact⟨rfl,rfl⟩
    .have h6:(48:Int)<=c:=by omega
     have h7:¬(c:Int)<=57:=by omega
     have hv:cc c=0:=by unfold cc;rw[if_neg (by omega),if_neg (by omega),if_neg (by omega)]
     rw[hv]
     go_enter Tryz.func195,Tryz.ntmps195
     go_wp2_with fail
     go_ret
     exact⟨rfl,rfl⟩
  .have h5:¬(c:Int)=95:=by omega
   by_cases h6:(48:Int)<=c
   .by_cases h7:(c:Int)<=57
    .have hv:cc c=4:=by unfold cc;rw[if_neg (by omega),if_neg (by omega),if_pos (by omega)]
     rw[hv]
     go_enter Tryz.func195,Tryz.ntmps195
     go_wp2_with fail
     go_ret
     exact⟨rfl,rfl⟩
    .have hv:cc c=0:=by unfold cc;rw[if_neg (by omega),if_neg (by omega),if_neg (by omega)]
     rw[hv]
     go_enter Tryz.func195,Tryz.ntmps195
     go_wp2_with fail
     go_ret
     exact⟨rfl,rfl⟩
   .have hv:cc c=0:=by unfold cc;rw[if_neg (by omega),if_neg (by omega),if_neg (by omega)]
    rw[hv]
    go_enter Tryz.func195,Tryz.ntmps195
    go_wp2_with fail
    go_ret
    exact⟨rfl,rfl⟩
def mr(r:Nat):Bool:=decide (122<r)||decide (cc r=0)
theorem EJ(c:Nat):((cc c:Int)=0/\cc c=0)\/((cc c=1\/cc c=2\/cc c=4)):=by
 unfold cc;split
 .exact .inr (.inl rfl)
 .split
  .exact .inr (.inr (.inl rfl))
  .split
   .exact .inr (.inr (.inr rfl))
   .exact .inl ⟨rfl,rfl⟩
set_option maxHeartbeats 1000000 in
theorem EX(r:Nat)(w:World):Calls Tryz.prog 197 #[.int .i32 (r:Int)] w λe w'=>e=.returned (.bool (mr r))/\w'=w:=by
 by_cases h1:(122:Int)<r
 .have hv:mr r=true:=by unfold mr;rw[decide_eq_true (by omega:122<r)];rfl
  rw[hv]
  go_enter Tryz.func197,Tryz.ntmps197
  go_wp2_with fail
  go_ret
  exact⟨rfl,rfl⟩
 .have hc:=G5 (r:Nat) w;rcases EJ r with ⟨_,h2⟩|h2
  .have hv:mr r=true:=by unfold mr;rw[decide_eq_true h2,Bool.or_true]
   rw[hv];rw[h2] at hc;have hc:Calls Tryz.prog 195 #[.int .u8 (r:Int)] w λe w'=>e=.returned (.int .u8 0)/\w'=w:=hc
   go_enter Tryz.func197,Tryz.ntmps197
   go_wp2_with (go_at_call 195;refine hc.mono ?_;rintro e w' ⟨rfl,rfl⟩)
   go_ret
   exact⟨rfl,rfl⟩
  .have hv:mr r=false:=by unfold mr;rw[decide_eq_false (by omega:¬122<r),decide_eq_false (by omega:¬cc r=0)];rfl
   rw[hv];rcases h2 with h2|h2|h2<;>rw[h2] at hc
   .have hc:Calls Tryz.prog 195 #[.int .u8 (r:Int)] w λe w'=>e=.returned (.int .u8 1)/\w'=w:=hc
    go_enter Tryz.func197,Tryz.ntmps197
    go_wp2_with (go_at_call 195;refine hc.mono ?_;rintro e w' ⟨rfl,rfl⟩)
    go_ret
    exact⟨rfl,rfl⟩
   .have hc:Calls Tryz.prog 195 #[.int .u8 (r:Int)] w λe w'=>e=.returned (.int .u8 2)/\w'=w:=hc
    go_enter Tryz.func197,Tryz.ntmps197
    go_wp2_with (go_at_call 195;refine hc.mono ?_;rintro e w' ⟨rfl,rfl⟩)
    go_ret
    exact⟨rfl,rfl⟩
   .have hc:Calls Tryz.prog 195 #[.int .u8 (r:Int)] w λe w'=>e=.returned (.int .u8 4)/\w'=w:=hc
    go_enter Tryz.func197,Tryz.ntmps197
    go_wp2_with (go_at_call 195;refine hc.mono ?_;rintro e w' ⟨rfl,rfl⟩)
    go_ret
    exact⟨rfl,rfl⟩
end Go.CK
namespace Go.AM
open Go.CK Go.RowKit Go.Proofs
theorem Fun.Em{P:Program}{f:FuncId}{ae:List AV}{r:AV}{v:Value}(hr:∀M σ n,RV M σ n r v)(h:∀(M:Hp) (σ:Nat->Nat) (n:Nat) (w:World) (args:List Value),M.le (Hp.of w)->args.length=ae.length->(∀j (hj:j<ae.length) v,args[j]? =some v->RV M σ n ae[j] v)->Calls P f args.toArray w λe w'=>e=.returned v/\Below w.heap.size w w'):Fun P f ae r:=by
 intro bs E G a0 w args lo hs hl hv;refine(h G.M G.σ bs.length w args hs.ok hl hv).mono ?_;rintro e w' ⟨rfl,hb⟩;have hMlt:∀B o u,G.M B o=some u->B<w.heap.size:=λB o u hu=>Hp.lt hs.ok hu;have h0:=hs.pw (bB G bs w 1) ⟨#[v],[]⟩ (Fr.refl _ _ _ hs.fr.kn) rfl bs.length rfl (zG _) (λ_ _=>rfl) (λB hB=>.inl hB) rfl;have h1:=h0.grow (M':=G.M) (w':=w') ⟨hb.os,hb.tape,hb.output,hb.size,Hp.le_refl _,λB hB _=>hb.block B hB,λ_ _ _ _=>rfl⟩ (λB o u hu=>(hb.cell (p:=⟨B,o,none⟩) (hMlt B o u hu)).trans (hs.ok _ _ _ hu));exact⟨_,_,_,_,rfl,⟨rfl,rfl⟩,h1.put (k:=0) Zz (x:=r) (hr _ _ _)⟩
end Go.AM
namespace Go.CK
open Go.AM Go.RowKit Go.Proofs
theorem sU(s:ByteArray)(c:UInt8):Fun Tryz.prog 232 [.str s,.str ⟨⟨[c]⟩⟩] (.bool (decide (0<=Lib.indexByte s.data.toList c))):=by
 refine Fun.Em (λM σ n=>.flat (.bool _)) λM σ n w args hM hal hv=>?_
 obtain⟨v1,v2,rfl⟩:∃v1 v2,args=[v1,v2]:=by
  match args,hal with
  |[v1,v2],_=>exact⟨v1,v2,rfl⟩
 have h1:=hv 0 (by simp) v1 rfl
 have h2:=hv 1 (by simp) v2 rfl
 simp only[ZS,Zj] at h1 h2;obtain⟨rfl,_⟩:=h1.cG;obtain⟨rfl,_⟩:=h2.cG;refine(Any.strings_Contains_one Tryz.yj s c w).mono ?_;rintro e w' ⟨rfl,rfl⟩;exact⟨rfl,Below.refl _ _⟩
theorem get0{s:ByteArray}(h:0<s.size):s.get! 0=s[0]'h:=by
 show s.data[0]! =s.data[0];exact getElem!_pos s.data 0 h
def mQ(s:ByteArray):Bool:=decide (1<=s.size/\s.size<=40)&&(decide (cc (s.get! 0).toNat=1)&&decide (Lib.idxFunc mr true (s.extract 1 s.size)<0))
set_option maxHeartbeats 1000000 in
theorem Gg(s:ByteArray)(hs:s.size<=9223372036854775807)(w:World):Calls Tryz.prog 148 #[.string s,.int .u8 1] w λe w'=>e=.returned (.bool (mQ s))/\Below w.heap.size w w':=by
 by_cases h0:s=⟨⟨[]⟩⟩
 .subst h0
  go_enter Tryz.func148,Tryz.ntmps148
  go_wp2_with fail
  go_ret
  exact⟨rfl,Below.refl _ _⟩
 .have hpos:0<s.size:=Nat.pos_of_ne_zero λe=>h0 (ByteArray.ext (Array.eq_empty_of_size_eq_zero e))
  have h0':(s.toList==([]:List UInt8))=false:=by
   rw[beq_eq_false_iff_ne];intro e;rw[ByteArray.toList_eq] at e;have:s.data.toList.length=0:=by rw[e];rfl
   rw[ZK] at this;exact absurd hpos (by rw[show s.size=s.data.size from rfl,this];omega)
  by_cases h1:(40:Int)<s.size
  .have hv:mQ s=false:=by unfold mQ;rw[decide_eq_false (by omega)];rfl
   rw[hv]
   go_enter Tryz.func148,Tryz.ntmps148
   go_wp2_with fail
   go_ret
   exact⟨rfl,Below.refl _ _⟩
  .have hg:=get0 hpos;have hc:=G5 (s[0]'hpos).toNat w
   by_cases h2:cc (s[0]'hpos).toNat=1
   .rw [h2] at hc;have hc:Calls Tryz.prog 195 #[.int .u8 ((s[0]'hpos).toNat:Int)] w λe w'=>e=.returned (.int .u8 1)/\w'=w:=hc;have hi:=Any.strings_IndexFunc Tryz.vn 197 #[] (enters_of Tryz.func197 (by kernel_rfl) rfl) mr (s.extract 1 s.size) w λW x _=>(EX x W).mono λe w' ⟨h1,h2⟩=>⟨h1,0,h2⟩
    have hv:mQ s=decide (Lib.idxFunc mr true (s.extract 1 s.size)<0):=by unfold mQ;rw[hg,decide_eq_true (show 1<=s.size/\s.size<=40 by omega),decide_eq_true h2];rfl
    rw[hv]
    go_enter Tryz.func148,Tryz.ntmps148
    go_wp2_with (first|(go_at_call 195;refine hc.mono ?_;rintro e w' ⟨rfl,rfl⟩)|(go_at_call 196;refine hi.mono ?_;rintro e w' ⟨rfl,hb⟩))
    go_ret
    exact⟨rfl,hb⟩
   .have hv:mQ s=false:=by unfold mQ;rw[hg,decide_eq_false h2];simp
    rw[hv];rcases EJ (s[0]'hpos).toNat with ⟨_,h3⟩|h3|h3|h3
    .rw [h3] at hc;have hc:Calls Tryz.prog 195 #[.int .u8 ((s[0]'hpos).toNat:Int)] w λe w'=>e=.returned (.int .u8 0)/\w'=w:=hc
     go_enter Tryz.func148,Tryz.ntmps148
     go_wp2_with (go_at_call 195;refine hc.mono ?_;rintro e w' ⟨rfl,rfl⟩)
     go_ret
     exact⟨rfl,Below.refl _ _⟩
    .exact absurd h3 h2
    .rw [h3] at hc;have hc:Calls Tryz.prog 195 #[.int .u8 ((s[0]'hpos).toNat:Int)] w λe w'=>e=.returned (.int .u8 2)/\w'=w:=hc
     go_enter Tryz.func148,Tryz.ntmps148
     go_wp2_with (go_at_call 195;refine hc.mono ?_;rintro e w' ⟨rfl,rfl⟩)
     go_ret
     exact⟨rfl,Below.refl _ _⟩
    .rw [h3] at hc;have hc:Calls Tryz.prog 195 #[.int .u8 ((s[0]'hpos).toNat:Int)] w λe w'=>e=.returned (.int .u8 4)/\w'=w:=hc
     go_enter Tryz.func148,Tryz.ntmps148
     go_wp2_with (go_at_call 195;refine hc.mono ?_;rintro e w' ⟨rfl,rfl⟩)
     go_ret
     exact⟨rfl,Below.refl _ _⟩
end Go.CK
namespace Go.CK
open Go.AM Go.Proofs
def Fk(s:ByteArray):Bool:=decide (s=⟨⟨[99,111,110,115,116,114,97,105,110,116]⟩⟩)||(decide (s=⟨⟨[116,114,117,101]⟩⟩)||(decide (s=⟨⟨[102,97,105,108]⟩⟩)||(decide (s=⟨⟨[105,115]⟩⟩)||(decide (s=⟨⟨[105,110,116]⟩⟩)||decide (s=⟨⟨[103,114,111,117,110,100]⟩⟩)))))
theorem AE(s:ByteArray):Fun Tryz.prog 149 [.str s] (.bool (Fk s)):=by
 refine Fun.of (qy (by simp) ?_) rfl rfl
 conv=>whnf
 repeat' (first|(refine gC ?_;first|refine gD (cI ?_)|refine aj.dec (λhc=>?_) (λhc=>?_))|refine ai.nrm ?_)<;>conv=>whnf
 all_goals (simp[Fk, *])
theorem Bu(s:ByteArray):∀(f pos:Nat),s.size<=pos+f->(Lib.idxFuncFrom mr true s f pos<0↔∀i,pos<=i->i<s.size->cc (s.get! i).toNat≠0)
 |0,pos,h=>⟨λ_ i h1 h2=>by omega,λ_=>by rw[Lib.idxFuncFrom];decide⟩
 |f+1,pos,h=>by
  rw[Lib.idxFuncFrom]
  by_cases hp:pos<s.size
  .rw [if_pos hp];have hd:=Lib.decode_at s pos;rcases Lib.decodeN_cases (s.size-pos) (s.get! pos).toNat (s.get! (pos+1)).toNat (s.get! (pos+2)).toNat (s.get! (pos+3)).toNat with ⟨h1,h2⟩|h2
   .rw [hd,h2]
    by_cases hc:cc (s.get! pos).toNat=0
    .have hb:mr (s.get! pos).toNat=true:=by unfold mr;rw[decide_eq_true hc,Bool.or_true]
     rw[if_pos hb];exact⟨λe=>by omega,λe=>absurd hc (e pos (zG _) hp)⟩
    .have hle:¬122<(s.get! pos).toNat:=by
      intro hlt;apply hc;unfold cc;rw[if_neg (by omega),if_neg (by omega),if_neg (by omega)]
     have hb:mr (s.get! pos).toNat=false:=by unfold mr;rw[decide_eq_false hle,decide_eq_false hc];rfl
     rw[if_neg (by rw[hb];decide),Bu s f (pos+1) (by omega)]
     refine⟨λe i h3 h4=>?_,λe i h3 h4=>e i (by omega) h4⟩
     rcases Nat.eq_or_lt_of_le h3 with h5|h5
     .rw [<-h5];exact hc
     .exact e i h5 h4
   .have hr:128<=(Utf8.decode s pos).1/\¬(s.get! pos).toNat<128\/(s.get! pos).toNat<128:=by
     by_cases hb:(s.get! pos).toNat<128
     .exact .inr hb
     .refine .inl ⟨?_,hb⟩;rw[hd];rcases h2 with ⟨_,_,_,h5,h6⟩|⟨_,_,_,_,h5,h6⟩|⟨h6,_⟩|h6
      .rw [h6];exact h5
      .rw [h6];show 128<=_;omega
      .omega
      .rw [h6];decide
    rcases hr with ⟨hr,hb⟩|hb
    .have hbr:mr (Utf8.decode s pos).1=true:=by unfold mr;rw[decide_eq_true (by omega:122<_)];rfl
     rw[if_pos hbr];have hc:cc (s.get! pos).toNat=0:=by unfold cc;rw[if_neg (by omega),if_neg (by omega),if_neg (by omega)]
     exact⟨λe=>by omega,λe=>absurd hc (e pos (zG _) hp)⟩
    .exfalso;have:Lib.decodeN (s.size-pos) (s.get! pos).toNat (s.get! (pos+1)).toNat (s.get! (pos+2)).toNat (s.get! (pos+3)).toNat=((s.get! pos).toNat,1):=by unfold Lib.decodeN;rw[if_pos hb]
     rw[this] at h2;rcases h2 with ⟨h3,_⟩|⟨h3,_⟩|⟨h3,_⟩|h6
     .omega
     .omega
     .dsimp only at h3;omega
     .have:=congrArg Prod.fst h6;simp only at this;omega
  .rw [if_neg hp];exact⟨λ_ i h1 h2=>by omega,λ_=>by decide⟩
def oe(s:ByteArray):Bool:=decide (1<=s.size/\s.size<=40/\∀i,i<s.size->cc (s.get! i).toNat≠0)
theorem BD(s:ByteArray){i:Nat}(h:i+1<s.size):(s.extract 1 s.size).get! i=s.get! (i+1):=by
 show (s.extract 1 s.size).data[i]! =s.data[i+1]!;have h2:i+1<s.data.size:=h;have hd:(s.extract 1 s.size).data=s.data.extract 1 s.size:=by simp
 have h3:i<(s.data.extract 1 s.size).size:=by
  rw[Array.size_extract];show i<min s.data.size s.data.size-1;omega
 rw[hd,getElem!_pos s.data (i+1) h2,getElem!_pos _ i h3,Array.getElem_extract];congr 1;omega
theorem Gi(s:ByteArray):mQ s=(oe s&&decide (cc (s.get! 0).toNat=1)):=by
 unfold mQ oe;rw[Bool.eq_iff_iff];simp only[zD,decide_eq_true_eq];have hsz:(s.extract 1 s.size).size=s.size-1:=by simp
 rw[show Lib.idxFunc mr true (s.extract 1 s.size)=Lib.idxFuncFrom mr true (s.extract 1 s.size) (s.extract 1 s.size).size 0 from rfl,Bu _ _ 0 (by omega),hsz]
 constructor
 .rintro ⟨⟨h1,h2⟩,h3,h4⟩;refine⟨⟨h1,h2,λi hi=>?_⟩,h3⟩
  cases i with
  |zero=>rw[h3];decide
  |succ i=>
   rw[<-BD s hi];exact h4 i (zJ _) (by omega)
 .rintro ⟨⟨h1,h2,h4⟩,h3⟩;refine⟨⟨h1,h2⟩,h3,λi _ hi=>?_⟩;rw[BD s (by omega)]
  exact h4 (i+1) (by omega)
theorem ID(s:ByteArray):Fun Tryz.prog 148 [.str s,.int .u8 1] (.bool (mQ s)):=by
 refine Fun.Em (λM σ n=>.flat (.bool _)) λM σ n w args hM hal hv=>?_
 obtain⟨v1,v2,rfl⟩:∃v1 v2,args=[v1,v2]:=by
  match args,hal with
  |[v1,v2],_=>exact⟨v1,v2,rfl⟩
 have h1:=hv 0 (by simp) v1 rfl
 have h2:=hv 1 (by simp) v2 rfl
 simp only[ZS,Zj] at h1 h2;obtain⟨rfl,hs⟩:=h1.cG;obtain rfl:=h2.aA;exact Gg s (by ((try unfold glim at hs);(try unfold lim at hs));omega) w
def fO(s:ByteArray):Bool:=mQ s&&!Fk s
theorem tj(s:ByteArray):Fun Tryz.prog 95 [.str s] (.bool (fO s)):=by
 refine Fun.of (vk (by simp) ?_) rfl rfl
 conv=>whnf
 repeat' (first|(refine gF ?_;first|refine ah.fn (ID _) ?_|refine ah.fn (AE _) ?_)|(refine gC ?_;first|refine cYa ?_|refine cNa ?_|refine aj.any (λhc=>?_) (λhc=>?_))|refine ai.nrm ?_)<;>conv=>whnf
 all_goals (simp[fO, *])
def fe(s:ByteArray):Bool:=decide (s=⟨⟨[43]⟩⟩)||(decide (s=⟨⟨[45]⟩⟩)||(decide (s=⟨⟨[42]⟩⟩)||(decide (s=⟨⟨[47]⟩⟩)||decide (s=⟨⟨[37]⟩⟩))))
theorem I2{s:ByteArray}(h:¬s.size=1):fe s=false:=by
 unfold fe;rw[decide_eq_false (by rintro rfl;exact h rfl),decide_eq_false (by rintro rfl;exact h rfl),decide_eq_false (by rintro rfl;exact h rfl),decide_eq_false (by rintro rfl;exact h rfl),decide_eq_false (by rintro rfl;exact h rfl)]
 rfl
theorem GY(c:UInt8):decide (0<=Lib.indexByte (⟨⟨[43,45,42,47,37]⟩⟩:ByteArray).data.toList c)=fe ⟨⟨[c]⟩⟩:=by
 have e:∀d:UInt8,decide ((⟨⟨[c]⟩⟩:ByteArray)=⟨⟨[d]⟩⟩)=decide (c=d):=λd=>by rw[decide_eq_decide];simp
 unfold fe;rw[e,e,e,e,e];simp only[Lib.indexByte]
 by_cases h1:c=43
 .subst h1;decide
 .by_cases h2:c=45
  .subst h2;decide
  .by_cases h3:c=42
   .subst h3;decide
   .by_cases h4:c=47
    .subst h4;decide
    .by_cases h5:c=37
     .subst h5;decide
     .have f:∀d:UInt8,¬c=d->(d==c)=false:=λd h=>by rw[beq_eq_false_iff_ne];exact λe=>h e.symm
      simp[h1,h2,h3,h4,h5,f 43 h1,f 45 h2,f 42 h3,f 47 h4,f 37 h5]
theorem I1(s:ByteArray):Fun Tryz.prog 200 [.str s] (.bool (fe s)):=by
 by_cases h1:s.size=1
 .obtain ⟨c,rfl⟩:∃c,s=⟨⟨[c]⟩⟩:=by
   obtain⟨⟨l⟩⟩:=s
   match l,h1 with
   |[c],_=>exact⟨c,rfl⟩
  refine Fun.of (kT (by simp) ?_) rfl rfl
  conv=>whnf
  repeat' (first|refine gF (ah.fn (sU _ _) ?_)|refine gC (gD (cI ?_))|refine ai.nrm ?_)<;>conv=>whnf
  all_goals (refine congrArg AV.bool ?_;exact GY c)
 .refine Fun.of (kT (by simp) ?_) rfl rfl
  conv=>whnf
  repeat' (first|refine gC (gD (cJ ?_))|refine ai.nrm ?_)<;>conv=>whnf
  all_goals (refine congrArg AV.bool ?_;exact(I2 h1).symm)
theorem tN(c:Nat):Fun Tryz.prog 112 [.int .u8 (c:Int)] (.bool (decide (97<=c/\c<=122))):=by
 refine Fun.of (j3 (by simp) ?_) rfl rfl
 conv=>whnf
 repeat' (first|(refine gC ?_;first|(refine gD ?_;first|refine cI ?_|refine cJ ?_)|refine aj.le (λhc=>?_) (λhc=>?_))|refine ai.nrm ?_)<;>conv=>whnf
 all_goals (refine congrArg AV.bool ?_;first|rfl|(rw[decide_eq_decide];omega)|(symm;rw[decide_eq_true_iff];omega)|(symm;rw[decide_eq_false_iff_not];omega))
theorem Al(c:Nat):Fun Tryz.prog 162 [.int .u8 (c:Int)] (.bool (decide (65<=c/\c<=90))):=by
 refine Fun.of (j2 (by simp) ?_) rfl rfl
 conv=>whnf
 repeat' (first|(refine gC ?_;first|(refine gD ?_;first|refine cI ?_|refine cJ ?_)|refine aj.le (λhc=>?_) (λhc=>?_))|refine ai.nrm ?_)<;>conv=>whnf
 all_goals (refine congrArg AV.bool ?_;first|rfl|(rw[decide_eq_decide];omega)|(symm;rw[decide_eq_true_iff];omega)|(symm;rw[decide_eq_false_iff_not];omega))
theorem xN(s:ByteArray):Fun Tryz.prog 113 [.str s] (.bool (Fk s)):=by
 refine Fun.of (gQ (by simp) ?_) rfl rfl
 conv=>whnf
 repeat' (first|(refine gC ?_;first|refine cY ?_|(refine gD ?_;first|refine cI ?_|refine cJ ?_)|refine aj.dec (λhc=>?_) (λhc=>?_))|refine ai.nrm ?_)<;>conv=>whnf
 all_goals (simp[Fk, *])
theorem GZ(s:ByteArray):Fun Tryz.prog 236 [.str s] (.bool (fe s)):=by
 refine Fun.of (gR (by simp) ?_) rfl rfl
 conv=>whnf
 repeat' (first|(refine gC ?_;first|refine cY ?_|(refine gD ?_;first|refine cI ?_|refine cJ ?_)|refine aj.dec (λhc=>?_) (λhc=>?_))|refine ai.nrm ?_)<;>conv=>whnf
 all_goals (simp[fe, *])
theorem EA{s:ByteArray}{j:Nat}(h:j<s.size):s[j]? =some (s.get! j):=by
 rw[getElem?_pos s j h];congr 1;exact(getElem!_pos s.data j h).symm
theorem FR(c:Nat):(cc c=0/\(¬(97<=c/\c<=122)/\¬(65<=c/\c<=90)/\¬c=95/\¬(48<=c/\c<=57)))\/(cc c≠0/\((97<=c/\c<=122)\/(65<=c/\c<=90)\/c=95\/(48<=c/\c<=57))):=by
 unfold cc
 by_cases h1:97<=c/\c<=122
 .exact .inr ⟨by rw[if_pos h1];decide,.inl h1⟩
 .by_cases h2:(65<=c/\c<=90)\/c=95
  .exact .inr ⟨by rw[if_neg h1,if_pos h2];decide,h2.elim (λh=>.inr (.inl h)) λh=>.inr (.inr (.inl h))⟩
  .by_cases h3:48<=c/\c<=57
   .exact .inr ⟨by rw[if_neg h1,if_neg h2,if_pos h3];decide,.inr (.inr (.inr h3))⟩
   .exact .inl ⟨by rw[if_neg h1,if_neg h2,if_neg h3],h1,λh=>h2 (.inl h),λh=>h2 (.inr h),h3⟩
theorem Ah(s:ByteArray):Fun Tryz.prog 111 [.str s] (.bool (oe s)):=by
 refine Fun.assume rfl λhg0=>?_;have hsz:s.size<=9223372036854775807:=ud (hg0 (.str s) (by simp))
 refine Fun.of (kY (by simp) ?_) rfl rfl
 conv=>whnf
 skip;refine aJ.by (fb:=true) (λ_ (j:Nat)=>⟨[(0,.str s),(3,.int .i64 (j:Int))],[],0⟩) (λj=>j<=s.size/\∀i,i<j->cc (s.get! i).toNat≠0) (λj=>s.size-j) 0 ⟨zJ _,λi h=>by omega⟩ ?_ ?_
 .exact bH
 .rintro j ⟨q1,q2⟩
  by_cases hj:j<s.size
  .obtain ⟨y,hy⟩:∃y,y=s.get! j:=⟨_,rfl⟩;have hx:s[((j:Nat):Int).toNat]? =some y:=by rw[Zq,hy];exact EA hj
   have hbad:cc y.toNat=0->false=oe s:=λh=>by
    unfold oe;symm;rw[decide_eq_false_iff_not];rintro⟨_,_,h3⟩;exact h3 j hj (by rw[<-hy];exact h)
   obtain⟨c,hcy⟩:∃c,c=y.toNat:=⟨_,rfl⟩;rw[<-hcy] at hbad;rcases FR c with ⟨hc,h1⟩|⟨hc,h1⟩
   .conv=>whnf
    repeat' (first|(refine gF ?_;first|refine ah.fn (tN _) ?_|refine ah.fn (Al _) ?_)|(refine gC ?_;first|refine cY ?_|refine .not ?_|(refine gD ?_;first|refine cI ?_|refine cJ ?_)|refine aj.lt (λhc=>?_) (λhc=>?_))|refine ai.nrm ?_|refine gIs (iS ?_))<;>conv=>whnf
    all_goals (exact congrArg AV.bool (hbad (by assumption)))
   .conv=>whnf
    repeat' (first|(refine gF ?_;first|refine ah.fn (tN _) ?_|refine ah.fn (Al _) ?_)|(refine gC ?_;first|refine cN ?_|refine .not ?_|(refine gD ?_;first|refine cI ?_|refine cJ ?_)|refine aj.lt (λhc=>?_) (λhc=>?_)|refine aj.dec (λhc=>?_) (λhc=>?_))|refine gW (wI ?_)|refine gIs (iS ?_))<;>conv=>whnf
    all_goals
     refine⟨j+1,⟨⟨hj,λi hi=>?_⟩,by omega⟩,?_⟩
     .rcases zu i j with h3|h3
      .exact q2 i h3
      .obtain rfl:i=j:=by omega
       rw[<-hy,<-hcy];assumption
     exact bH
  .have hall:oe s=decide (1<=s.size/\s.size<=40):=by
    unfold oe;rw[decide_eq_decide];exact⟨λh=>⟨h.1,h.2.1⟩,λh=>⟨h.1,h.2,λi hi=>q2 i (by omega)⟩⟩
   rw[hall]
   conv=>whnf
   repeat' (first|(refine gC ?_;first|(refine gD ?_;first|refine cI ?_|refine cJ ?_)|refine aj.le (λhc=>?_) (λhc=>?_))|refine ai.nrm ?_)<;>conv=>whnf
   all_goals (refine congrArg AV.bool ?_;first|rfl|(rw[decide_eq_decide];omega)|(symm;rw[decide_eq_true_iff];omega)|(symm;rw[decide_eq_false_iff_not];omega))
end Go.CK
namespace Go.CK
open Go.AM Go.Proofs
theorem Jv(c:Nat):decide (97<=c/\c<=122)=decide (cc c=1):=by
 rw[decide_eq_decide];unfold cc
 by_cases h1:97<=c/\c<=122
 .rw [if_pos h1];exact⟨λ_=>rfl,λ_=>h1⟩
 .rw [if_neg h1];refine⟨λh=>absurd h h1,λh=>?_⟩;split at h
  .cases h
  .split at h<;>cases h
theorem vO(s:ByteArray):Fun Tryz.prog 61 [.str s] (.bool (fO s)):=by
 have he:fO s=(oe s&&(decide (cc (s.get! 0).toNat=1)&&!Fk s)):=by rw[fO,Gi,Bool.and_assoc]
 rw[he]
 cases hw:oe s with
 |false=>
  have hwo:Fun Tryz.prog 111 [.str s] (.bool false):=by rw[<-hw];exact Ah s
  refine Fun.of (dL (by simp) ?_) rfl rfl
  conv=>whnf
  repeat' (first|refine gF (ah.fn (hwo) ?_)|refine gC (cN ?_)|refine ai.nrm ?_)<;>conv=>whnf
  all_goals rfl
 |true=>
  have hwo:Fun Tryz.prog 111 [.str s] (.bool true):=by rw[<-hw];exact Ah s
  have h1:1<=s.size:=by unfold oe at hw;exact(of_decide_eq_true hw).1
  obtain⟨y,hy⟩:∃y,y=s.get! 0:=⟨_,rfl⟩;have hx:s[(0:Int).toNat]? =some y:=by rw[hy];exact EA (by omega)
  rw[<-hy,<-Jv];refine Fun.of (dL (by simp) ?_) rfl rfl
  conv=>whnf
  repeat' (first|(refine gF ?_;first|refine ah.fn (hwo) ?_|refine ah.fn (tN _) ?_|refine ah.fn (xN _) ?_)|(refine gC ?_;first|refine cY ?_|(refine gD ?_;first|refine cI ?_|refine cJ ?_)|refine aj.dec (λhc=>?_) (λhc=>?_))|refine ai.nrm ?_|refine gIs (iS ?_))<;>conv=>whnf
  all_goals (clear hy;refine congrArg AV.bool ?_;simp[*])
mutual
def Tm.form:Tm->Bool
 |.mk k n s l=>if k=0 then decide (-2147483648<=n/\n<=2147483648/\s=⟨⟨[]⟩⟩/\l.length=0)
  else if k=1 then decide (0<=n/\n<=1048576/\s=⟨⟨[]⟩⟩/\l.length=0)
  else if k=2 then decide (n=0/\l.length<=6)&&((fO s||(fe s&&decide (l.length=2)))&&Tm.fQ l)
  else false
def Tm.fQ:List Tm->Bool
 |[]=>true
 |t::r=>t.form&&Tm.fQ r
end
mutual
def Tm.sz:Tm->Nat
 |.mk k _ _ l=>1+(if k=2 then Tm.szs l else 0)
def Tm.szs:List Tm->Nat
 |[]=>0
 |t::r=>t.sz+Tm.szs r
end
mutual
def Tm.dep:Tm->Nat
 |.mk k _ _ l=>(if k=2 then Tm.ji l else 0)+1
def Tm.ji:List Tm->Nat
 |[]=>0
 |t::r=>max t.dep (Tm.ji r)
end
def vB(n d:Int)(t:Tm):Bool:=t.form&&decide ((t.sz:Int)<=n/\(t.dep:Int)<=d)
def vLB(n d:Int)(l:List Tm):Bool:=Tm.fQ l&&decide ((Tm.szs l:Int)<=n/\(Tm.ji l:Int)<=d)
def Tm.right(t:Tm):Bool:=vB 200 20 t
theorem mU:∀(l:List Tm) (x:Tm),Tm.szs (l++[x])=Tm.szs l+x.sz
 |[],x=>by simp[Tm.szs]
 |y::l,x=>by simp only[zf,Tm.szs,mU l x];omega
theorem iW:∀(l:List Tm) (x:Tm),Tm.fQ (l++[x])=(Tm.fQ l&&x.form)
 |[],x=>by simp[Tm.fQ]
 |y::l,x=>by simp only[zf,Tm.fQ,iW l x,Bool.and_assoc]
theorem qX:∀(l:List Tm) (x:Tm),Tm.ji (l++[x])=max (Tm.ji l) x.dep
 |[],x=>by simp[Tm.ji]
 |y::l,x=>by simp only[zf,Tm.ji,qX l x];omega
theorem ph:∀(l:List Tm) {j:Nat} {x:Tm},l[j]? =some x->Tm.szs (l.take j)+x.sz<=Tm.szs l
 |y::l,0,x,h=>by simp at h;subst h;simp only[ZM,Tm.szs];omega
 |y::l,j+1,x,h=>by
  have:=ph l (j:=j) (x:=x) (by simpa using h)
  simp only[yG,Tm.szs];omega
 |[],j,x,h=>by simp at h
theorem qS:∀{l:List Tm} {x:Tm},Tm.fQ l=true->x∈l->x.form=true
 |y::l,x,h,hm=>by
  simp only[Tm.fQ,zD] at h;rcases zI.1 hm with rfl|hm
  .exact h.1
  .exact qS h.2 hm
theorem BM:∀{l:List Tm} {x:Tm},x∈l->x.dep<=Tm.ji l
 |y::l,x,hm=>by
  simp only[Tm.ji];rcases zI.1 hm with rfl|hm
  .omega
  .have:=BM hm;omega
theorem E0{n d:Int}{l:List Tm}{j:Nat}{x:Tm}(hx:l[j]? =some x)(h:vB (n-Tm.szs (l.take j)) d x=false):vLB n d l=false:=by
 rw[Bool.eq_false_iff];intro hv;unfold vLB at hv;rw[zD,decide_eq_true_eq] at hv;obtain⟨h1,h2,h3⟩:=hv;have hm:=zE hx;have h4:=ph l hx;have h5:=BM hm;unfold vB at h;rw[qS h1 hm,zb,decide_eq_false_iff_not] at h;apply h;omega
theorem xi{n d:Int}{t:Tm}(h:vB n d t=true):t.form=true/\(t.sz:Int)<=n/\(t.dep:Int)<=d:=by
 unfold vB at h;rw[zD,decide_eq_true_eq] at h;exact h
theorem xx{t:Tm}(h:¬t.kind=2):t.sz=1:=by
 obtain⟨k,i,s,l⟩:=t;simp only[Tm.kind] at h;rw[Tm.sz,if_neg h]
theorem BN{t:Tm}(h:¬t.kind=2):t.dep=1:=by
 obtain⟨k,i,s,l⟩:=t;simp only[Tm.kind] at h;rw[Tm.dep,if_neg h]
theorem xy{t:Tm}(h:t.kind=2):t.sz=1+Tm.szs t.args:=by
 obtain⟨k,i,s,l⟩:=t;simp only[Tm.kind] at h;rw[Tm.sz,if_pos h];rfl
theorem EG{t:Tm}(h:t.kind=2):t.dep=Tm.ji t.args+1:=by
 obtain⟨k,i,s,l⟩:=t;simp only[Tm.kind] at h;rw[Tm.dep,if_pos h];rfl
theorem HW{t:Tm}(h:t.kind=0):t.form=decide (-2147483648<=t.num/\t.num<=2147483648/\t.name=⟨⟨[]⟩⟩/\t.args.length=0):=by
 obtain⟨k,i,s,l⟩:=t;simp only[Tm.kind] at h;rw[Tm.form,if_pos h];rfl
theorem HU{t:Tm}(h:t.kind=1):t.form=decide (0<=t.num/\t.num<=1048576/\t.name=⟨⟨[]⟩⟩/\t.args.length=0):=by
 obtain⟨k,i,s,l⟩:=t;simp only[Tm.kind] at h;rw[Tm.form,if_neg (by omega),if_pos h];rfl
theorem HS{t:Tm}(h:t.kind=2):t.form=(decide (t.num=0/\t.args.length<=6)&&((fO t.name||(fe t.name&&decide (t.args.length=2)))&&Tm.fQ t.args)):=by
 obtain⟨k,i,s,l⟩:=t;simp only[Tm.kind] at h;rw[Tm.form,if_neg (by omega),if_neg (by omega),if_pos h];rfl
theorem HR{t:Tm}(h0:¬t.kind=0)(h1:¬t.kind=1)(h2:¬t.kind=2):t.form=false:=by
 obtain⟨k,i,s,l⟩:=t;simp only[Tm.kind] at h0 h1 h2;rw[Tm.form,if_neg h0,if_neg h1,if_neg h2]
theorem J5(t:Tm):1<=t.sz:=by obtain⟨k,i,s,l⟩:=t;rw[Tm.sz];omega
theorem Js(t:Tm):1<=t.dep:=by obtain⟨k,i,s,l⟩:=t;rw[Tm.dep];omega
theorem Gn{n d:Int}{t:Tm}(h:n<1\/d<1):vB n d t=false:=by
 have h1:=J5 t;have h2:=Js t;unfold vB;rw[decide_eq_false (by omega),Bool.and_false]
theorem xj{n d:Int}{t:Tm}(h:¬t.kind=2)(hn:1<=n)(hd:1<=d):vB n d t=t.form:=by
 unfold vB;rw[xx h,BN h,decide_eq_true (by omega),Bool.and_true]
theorem JZ{n d:Int}{t:Tm}(h:t.kind=2):vB n d t=(decide (t.num=0/\t.args.length<=6)&&((fO t.name||(fe t.name&&decide (t.args.length=2)))&&vLB (n-1) (d-1) t.args)):=by
 unfold vB vLB
 have e:decide ((t.sz:Int)<=n/\(t.dep:Int)<=d)=decide ((Tm.szs t.args:Int)<=n-1/\(Tm.ji t.args:Int)<=d-1):=by
  rw[decide_eq_decide,xy h,EG h];omega
 rw[HS h,e,Bool.and_assoc,Bool.and_assoc]
def pc(n:Int)(b:Bool)(k:Nat)(r:AV)(bs':List Box):Prop:=r=.bool b/\∃m:Int,bs'=[.cells [.int .i64 m]]/\(b=true->m=n-k)
theorem xf{n d:Int}{t:Tm}{bs:List Box}{m:Int}(hb:bs=[.cells [.int .i64 m]])(h:vB n d t=false):pc n (vB n d t) t.sz (.bool false) bs:=⟨by rw[h],m,hb,by rw[h];intro e;cases e⟩
theorem Gm{n d:Int}{t:Tm}{b:Bool}{bs:List Box}(hk:¬t.kind=2)(hb:bs=[.cells [.int .i64 (n-1)]])(h:vB n d t=b):pc n (vB n d t) t.sz (.bool b) bs:=⟨by rw[h],n-1,hb,by rw[xx hk];intro _;rfl⟩
set_option maxHeartbeats 1000000 in
theorem DQ{l:List Tm}{n d:Int}(hn:0<=n/\n<=200)(hd:0<=d/\d<=20)(hl:l.length<=9223372036854775807)(h:∀x∈l,∀n:Int,0<=n->n<=200->AM.Sem Tryz.prog 153 [.ptr 0 0,x.avw,.int .i64 d] [.cells [.int .i64 n]] (pc n (vB n d x) x.sz)):AM.Sem Tryz.prog 102 [.ptr 0 0,.sl .no (l.map Tm.av),.int .i64 d] [.cells [.int .i64 n]] (pc n (vLB n d l) (Tm.szs l)):=by
 refine ng (by simp) ?_
 conv=>whnf
 repeat' refine gL (.map ?_)<;>conv=>whnf
 refine aJ.by (fb:=true) (λ_ (q:Nat×Int)=>⟨[(0,.ptr 0 0),(1,.sl .no (l.map Tm.av)),(2,.int .i64 d),(9,.int .i64 (l.length:Int)),(10,.int .i64 (q.1:Int))],[.cells [.int .i64 q.2]],1⟩) (λq=>q.1<=l.length/\q.2=n-Tm.szs (l.take q.1)/\0<=q.2/\vLB n d (l.take q.1)=true) (λq=>l.length-q.1) (0,n) ⟨zJ _,by simp[Tm.szs],hn.1,by simp[vLB,Tm.fQ,Tm.szs,Tm.ji];omega⟩ ?_ ?_
 .exact bH
 .rintro ⟨j,m⟩ ⟨q1,q2,q3,q4⟩;dsimp only at q1 q2 q3 q4|-
  by_cases hj:j<l.length
  .obtain ⟨x,hx⟩:∃x,l[j]? =some x:=⟨_,zA hj⟩;have htk:l.take (j+1)=l.take j++[x]:=by rw[ZD,hx];rfl
   have hcall:=h x (zE hx) m q3 (by omega)
   conv=>whnf
   repeat' (first|refine gC (gD (cI ?_))|refine gI (gT (iA ?_)))<;>conv=>whnf
   cases hb:vB m d x with
   |false=>
    rw[hb] at hcall;refine ah.at [0] hcall rfl rfl ?_ oko ?_
    .rintro r bs' ⟨rfl,m',rfl,_⟩;exact⟨rfl,rfl,oko⟩
    rintro r bs' ⟨rfl,m',rfl,_⟩
    conv=>whnf
    repeat' (refine gC ?_;first|refine cN ?_|refine .not ?_)<;>conv=>whnf
    conv=>whnf
    repeat' refine ai.nrm ?_<;>conv=>whnf
    have:=E0 (n:=n) (d:=d) hx (by rw[<-q2];exact hb)
    exact⟨by rw[this],m',rfl,by rw[this];intro e;cases e⟩
   |true=>
    rw[hb] at hcall;refine ah.at [0] hcall rfl rfl ?_ oko ?_
    .rintro r bs' ⟨rfl,m',rfl,_⟩;exact⟨rfl,rfl,oko⟩
    rintro r bs' ⟨rfl,m',rfl,hm'⟩;have hm':=hm' rfl;obtain⟨b1,b2,b3⟩:=xi hb
    conv=>whnf
    repeat' (first|(refine gC ?_;first|refine cY ?_|refine .not ?_)|refine gW (wI ?_))<;>conv=>whnf
    refine⟨(j+1,m'),⟨⟨hj,by show m'=n-Tm.szs (l.take (j+1));rw[htk,mU];omega,by show 0<=m';omega,?_⟩,by show _-(j+1)<_-j;omega⟩,?_⟩
    .show vLB n d (l.take (j+1))=true;unfold vLB at q4|-;rw[zD,decide_eq_true_eq] at q4|-;rw[htk,iW,mU,qX,q4.1,b1];exact⟨rfl,by omega,by omega⟩
    exact bH
  .obtain rfl:j=l.length:=by omega
   rw[zm (zG _)] at q2 q4
   conv=>whnf
   repeat' refine gC (gD (cJ ?_))<;>conv=>whnf
   conv=>whnf
   repeat' refine ai.nrm ?_<;>conv=>whnf
   exact⟨by rw[q4],m,rfl,λ_=>q2⟩
set_option maxHeartbeats 1000000 in
theorem Gk(t:Tm):∀n d:Int,0<=n->n<=200->0<=d->d<=20->AM.Sem Tryz.prog 153 [.ptr 0 0,t.avw,.int .i64 d] [.cells [.int .i64 n]] (pc n (vB n d t) t.sz):=by
 induction t using Tm.bu with
 |h k i s l ih=>
 intro n d hn hn2 hd hd2;generalize ha:Tm.mk k i s l=t;replace ih:∀x∈t.args,∀n d:Int,0<=n->n<=200->0<=d->d<=20->AM.Sem Tryz.prog 153 [.ptr 0 0,x.avw,.int .i64 d] [.cells [.int .i64 n]] (pc n (vB n d x) x.sz):=by subst ha;exact ih
 clear ha;refine Sem.assume λhg0 _=>?_;have hg:=(pX (hg0 t.avw (by simp) rfl)).2.1
 refine lV (by simp) ?_
 by_cases hlow:n<1\/d<1
 .by_cases h1:n<1
  .conv=>whnf
   repeat' (first|(refine gC ?_;first|refine cY ?_|refine gD (cI ?_))|refine gW (wI ?_))<;>conv=>whnf
   refine ai.lay [some 0] oko ?_
   conv=>whnf
   repeat' refine ai.nrm ?_<;>conv=>whnf
   exact xf rfl (Gn hlow)
  .have h2:d<1:=hlow.resolve_left h1
   conv=>whnf
   repeat' (first|(refine gC ?_;(refine gD ?_;first|refine cI ?_|refine cJ ?_))|refine gW (wI ?_))<;>conv=>whnf
   refine ai.lay [some 0] oko ?_
   conv=>whnf
   repeat' refine ai.nrm ?_<;>conv=>whnf
   exact xf rfl (Gn hlow)
 .have h1:¬n<1:=λe=>hlow (.inl e);have h2:¬d<1:=λe=>hlow (.inr e)
  by_cases hk2:t.kind=2
  .rw [show pc n (vB n d t) t.sz=pc n (decide (t.num=0/\t.args.length<=6)&&((fO t.name||(fe t.name&&decide (t.args.length=2)))&&vLB (n-1) (d-1) t.args)) t.sz by rw[JZ hk2]]
   by_cases h3:t.num=0/\t.args.length<=6
   rotate_left
   .rw [decide_eq_false h3,zy]
    by_cases h4:t.num=0
    .have h5:¬t.args.length<=6:=λe=>h3 ⟨h4,e⟩
     conv=>whnf
     repeat' (first|(refine gC ?_;first|refine .not ?_|(refine gD ?_;first|refine cI ?_|refine cJ ?_))|refine gW (wI ?_)|refine gL (.map ?_))<;>conv=>whnf
     refine ai.lay [some 0] oko ?_
     conv=>whnf
     repeat' refine ai.nrm ?_<;>conv=>whnf
     exact⟨rfl,_,rfl,λe=>by cases e⟩
    .conv=>whnf
     repeat' (first|(refine gC ?_;first|refine cY ?_|refine .not ?_|(refine gD ?_;first|refine cI ?_|refine cJ ?_))|refine gW (wI ?_))<;>conv=>whnf
     refine ai.lay [some 0] oko ?_
     conv=>whnf
     repeat' refine ai.nrm ?_<;>conv=>whnf
     exact⟨rfl,_,rfl,λe=>by cases e⟩
   obtain⟨h4,h5⟩:=h3;rw[decide_eq_true (show t.num=0/\t.args.length<=6 from ⟨h4,h5⟩),zb];have hro:=tj t.name;have hoo:=I1 t.name
   cases hnr:fO t.name with
   |true=>
    rw[hnr] at hro;rw[Bool.true_or,zb]
    conv=>whnf
    repeat' (first|refine gF (ah.fn (hro) ?_)|(refine gC ?_;first|refine cY ?_|refine cN ?_|refine .not ?_|(refine gD ?_;first|refine cI ?_|refine cJ ?_))|refine gW (wI ?_)|refine gL (.map ?_))<;>conv=>whnf
    refine ah.at [0] (DQ (l:=t.args) (n:=n-1) (d:=d-1) ⟨by omega,by omega⟩ ⟨by omega,by omega⟩ hg λx hx m hm hm2=>ih x hx m (d-1) hm hm2 (by omega) (by omega)) rfl rfl ?_ oko ?_
    .rintro r bs' ⟨rfl,m',rfl,_⟩;exact⟨rfl,rfl,oko⟩
    rintro r bs' ⟨rfl,m',rfl,hm'⟩
    conv=>whnf
    skip;refine ai.lay [some 0] oko ?_
    conv=>whnf
    repeat' refine ai.nrm ?_<;>conv=>whnf
    exact⟨rfl,m',rfl,λe=>by rw[hm' e,xy hk2];omega⟩
   |false=>
    rw[hnr] at hro;rw[Bool.false_or]
    cases hop:fe t.name with
    |false=>
     rw[hop] at hoo;rw[zy,zy]
     conv=>whnf
     repeat' (first|(refine gF ?_;first|refine ah.fn (hro) ?_|refine ah.fn (hoo) ?_)|(refine gC ?_;first|refine cN ?_|refine .not ?_|(refine gD ?_;first|refine cI ?_|refine cJ ?_))|refine gW (wI ?_)|refine gL (.map ?_))<;>conv=>whnf
     refine ai.lay [some 0] oko ?_
     conv=>whnf
     repeat' refine ai.nrm ?_<;>conv=>whnf
     exact⟨rfl,_,rfl,λe=>by cases e⟩
    |true=>
     rw[hop] at hoo;rw[zb]
     by_cases h6:t.args.length=2
     .rw [decide_eq_true h6,zb]
      conv=>whnf
      repeat' (first|(refine gF ?_;first|refine ah.fn (hro) ?_|refine ah.fn (hoo) ?_)|(refine gC ?_;first|refine cY ?_|refine cN ?_|refine .not ?_|(refine gD ?_;first|refine cI ?_|refine cJ ?_))|refine gW (wI ?_)|refine gL (.map ?_))<;>conv=>whnf
      refine ah.at [0] (DQ (l:=t.args) (n:=n-1) (d:=d-1) ⟨by omega,by omega⟩ ⟨by omega,by omega⟩ hg λx hx m hm hm2=>ih x hx m (d-1) hm hm2 (by omega) (by omega)) rfl rfl ?_ oko ?_
      .rintro r bs' ⟨rfl,m',rfl,_⟩;exact⟨rfl,rfl,oko⟩
      rintro r bs' ⟨rfl,m',rfl,hm'⟩
      conv=>whnf
      skip;refine ai.lay [some 0] oko ?_
      conv=>whnf
      repeat' refine ai.nrm ?_<;>conv=>whnf
      exact⟨rfl,m',rfl,λe=>by rw[hm' e,xy hk2];omega⟩
     .rw [decide_eq_false h6,zy]
      conv=>whnf
      repeat' (first|(refine gF ?_;first|refine ah.fn (hro) ?_|refine ah.fn (hoo) ?_)|(refine gC ?_;first|refine cY ?_|refine cN ?_|refine .not ?_|(refine gD ?_;first|refine cI ?_|refine cJ ?_))|refine gW (wI ?_)|refine gL (.map ?_))<;>conv=>whnf
      refine ai.lay [some 0] oko ?_
      conv=>whnf
      repeat' refine ai.nrm ?_<;>conv=>whnf
      exact⟨rfl,_,rfl,λe=>by cases e⟩
  .by_cases hk0:t.kind=0
   .conv=>whnf
    repeat' (first|(refine gC ?_;first|refine cN ?_|(refine gD ?_;first|refine cI ?_|refine cJ ?_)|refine aj.le (λhc=>?_) (λhc=>?_)|refine aj.dec (λhc=>?_) (λhc=>?_))|refine gW (wI ?_)|refine gL (.map ?_))<;>conv=>whnf
    all_goals
     refine ai.lay [some 0] oko ?_
     conv=>whnf
     repeat' refine ai.nrm ?_<;>conv=>whnf
     refine Gm hk2 rfl ?_;rw[xj hk2 (by omega) (by omega),HW hk0]
     first
      |(rw[decide_eq_decide];exact⟨λh=>by omega,λh=>⟨by omega,by omega,by assumption,by omega⟩⟩)
      |(rw[decide_eq_false_iff_not];rintro⟨e1,e2,e3,e4⟩;first|omega|contradiction)
      |(rw[decide_eq_true_iff];exact⟨by omega,by omega,by assumption,by omega⟩)
   .by_cases hk1:t.kind=1
    .conv=>whnf
     repeat' (first|(refine gC ?_;first|refine cN ?_|(refine gD ?_;first|refine cI ?_|refine cJ ?_)|refine aj.le (λhc=>?_) (λhc=>?_)|refine aj.dec (λhc=>?_) (λhc=>?_))|refine gW (wI ?_)|refine gL (.map ?_))<;>conv=>whnf
     all_goals
      refine ai.lay [some 0] oko ?_
      conv=>whnf
      repeat' refine ai.nrm ?_<;>conv=>whnf
      refine Gm hk2 rfl ?_;rw[xj hk2 (by omega) (by omega),HU hk1]
      first
       |(rw[decide_eq_decide];exact⟨λh=>by omega,λh=>⟨by omega,by omega,by assumption,by omega⟩⟩)
       |(rw[decide_eq_false_iff_not];rintro⟨e1,e2,e3,e4⟩;first|omega|contradiction)
       |(rw[decide_eq_true_iff];exact⟨by omega,by omega,by assumption,by omega⟩)
    .conv=>whnf
     repeat' (first|refine gC (gD (cJ ?_))|refine gW (wI ?_))<;>conv=>whnf
     refine ai.lay [some 0] oko ?_
     conv=>whnf
     repeat' refine ai.nrm ?_<;>conv=>whnf
     exact xf rfl (by rw[xj hk2 (by omega) (by omega),HR hk0 hk1 hk2])
end Go.CK
