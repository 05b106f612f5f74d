/-
  Texts of this bj joined (wip/gen/bundle.py),those declarations only that are needed:LkpF LkpG LkpH Lay UnF UnN UnP UnV. By an AI agent.
-/
import Derived.Test.YtcjfkbdbcgmomaaGreatDoorBaz
import Derived.Ground.NamesProg
import Derived.Ground.Names2Prog
import Derived.Ground.GgzProg
import Derived.Ground.GgwProg
import Derived.Shelf.Sort.Plain
import Derived.Shelf.Slices.In.SortNone
import Derived.Shelf.SlIterI.Sorted
import Derived.Shelf.SlIterI.Collect
import Derived.Shelf.SlIterI.Keys
import Derived.Shelf.GgClosure.StringsIndexFuncTop
import Derived.Shelf.Strings.Search3
import Derived.Shelf.Strings.BuilderF
import Derived.Shelf.Strconv.Itoa3
import Derived.Shelf.Spec.SlicesInsertGrow
import Derived.BigQuiet
import Derived.StillTailTactics
import Derived.Deep.RegionHeld3
import Derived.KernelRfl
import Derived.Lib.SpaceUEq
set_option linter.unusedSimpArgs false
set_option linter.unusedVariables false
set_option maxRecDepth 100000
namespace Go.CK
open Go.AM Go.Proofs
def sj(p:Pg)(l:List Ac)(x:Pl)(k:Int):Int:=match cC p x k with
 |some y=>dS (lJ (fy y.1 y.2)) l
 |none=>-1
theorem wC{p:Pg}{l:List Ac}{x:Pl}{k:Int}(hp:p.ok8):Fun Tryz.prog 23 [p.av,slA Ac.av l,x.av,.int .i64 k] (.int .i64 (sj p l x k)):=by
 have hH:=wT (p:=p) (x:=x) (k:=k) hp
 cases hI:cC p x k with
 |none=>
  rw[s7 hI] at hH;rw[sj,hI];refine Fun.of (l8 (by simp) ?_) rfl rfl
  conv=>whnf
  repeat' (first|refine gF (ag.fn (hH) ?_)|refine gC (cN ?_)|refine ak.nrm ?_)<;>conv=>whnf
 |some y=>
  rw[s6 hI] at hH;rw[sj,hI];refine Fun.of (l8 (by simp) ?_) rfl rfl
  conv=>whnf
  repeat' (first|(refine gF ?_;first|refine ag.fn (hH) ?_|refine ag.fn (u9) ?_)|refine gC (cY ?_)|refine ak.nrm ?_)<;>conv=>whnf
def jK(a:List Tm):List Int->List Tm
 |[]=>[]
 |i::r=>(if 0<=i/\i<a.length then (a[i.toNat]?).toList else [])++jK a r
theorem sU(a:List Tm):∀l m,jK a (l++m)=jK a l++jK a m
 |[],m=>rfl
 |x::l,m=>by simp only[ze,jK,sU a l m,zg]
theorem EM{a:List Tm}{l:List Int}{j:Nat}{i:Int}{t:Tm}(h:l[j]? =some i)(h0:0<=i)(h1:i<a.length)(ht:a[i.toNat]? =some t):jK a (l.take (j+1))=jK a (l.take j)++[t]:=by
 rw[ZC,h,sU];simp only[Option.toList_some,jK,zy,ht,h0,h1,and_self,if_true]
theorem Gi{a:List Tm}{l:List Int}{j:Nat}{i:Int}(h:l[j]? =some i)(h0:¬(0<=i/\i<a.length)):jK a (l.take (j+1))=jK a (l.take j):=by
 rw[ZC,h,sU];simp only[Option.toList_some,jK,zy,if_neg h0]
theorem yj(a:List Tm):∀l,(jK a l).length<=l.length
 |[]=>zG _
 |i::r=>by
  have:=yj a r;simp only[jK,zC,zX];split
  .cases a[i.toNat]?<;>simp<;>omega
  .simp;omega
def ym(p:Pg)(x:Pl)(k:Int):List Tm:=match cC p x k with
 |some y=>jK y.1.args y.2
 |none=>[]
theorem EL{p:Pg}{x:Pl}{k:Int}(hp:p.ok8)(hl:∀y,cC p x k=some y->y.2.length<=100000):Fun Tryz.prog 25 [p.av,x.av,.int .i64 k] (slA Tm.av (ym p x k)):=by
 have hH:=wT (p:=p) (x:=x) (k:=k) hp
 cases hI:cC p x k with
 |none=>
  rw[s7 hI] at hH;rw[show ym p x k=[] by rw[ym,hI]]
  refine Fun.of (nk (by simp) ?_) rfl rfl
  conv=>whnf
  repeat' (first|refine gF (ag.fn (hH) ?_)|refine gL (.nil ?_))<;>conv=>whnf
  refine az.count (fb:=true) (0) (λst_ j=>st_.bD [(23,.int .i64 j)]) (λj=>True) ?_ ?_ (λj hj hij=>?_) (λhij=>?_)
  .trivial
  .exact bq
  .omega
  .conv=>whnf
   repeat' (first|refine gC (gD (cJ ?_))|refine ak.nrm ?_)<;>conv=>whnf
   rfl
 |some y=>
  have hl:=hl y hI;rw[s6 hI] at hH;rw[show ym p x k=jK y.1.args y.2 by rw[ym,hI]]
  have hlen:∀j,(jK y.1.args (y.2.take j)).length<=j:=λj=>ZN (yj _ _) (by rw[zn];omega)
  refine Fun.of (nk (by simp) ?_) rfl rfl
  conv=>whnf
  repeat' (first|refine gF (ag.fn (hH) ?_)|refine gL (.map ?_))<;>conv=>whnf
  refine az.count (fb:=true) (y.2.length) (λst_ j=>st_.bD [(10,.sl (.own 4) ((jK y.1.args (y.2.take j)).map Tm.av)),(23,.int .i64 j)]) (λj=>True) ?_ ?_ (λj hj hij=>?_) (λhij=>?_)
  .trivial
  .refine aq.at_ ?_ rfl
   conv=>whnf
   refine And.intro ?_ ?_<;>conv=>whnf
   all_goals repeat' (first|(refine gV ?_;first|refine vE ?_|refine vI ?_|((refine gK ?_;refine vD ?_ ?_);(focus (simp[AV.norm,AV.aj,jK];done))))|refine gX (xB ?_)|exact True.intro)<;>conv=>whnf
  .obtain ⟨i,hi⟩:∃i,y.2[j]? =some i:=⟨_,zA hj⟩;have hlj:=hlen j
   by_cases h0:0<=i/\i<y.1.args.length
   .obtain ⟨t,ht⟩:∃t,y.1.args[i.toNat]? =some t:=⟨_,zA (by omega)⟩
    have hs:=EM hi h0.1 h0.2 ht
    conv=>whnf
    repeat' (first|refine gC (gD (cI ?_))|refine gW (wI ?_)|refine gL (.map ?_)|refine gN (nS ?_)|(refine gI ?_;first|refine gT (iB ?_)|refine gM (iE ?_)))<;>conv=>whnf
    all_goals first|(exfalso;omega)|skip
    refine⟨trivial,?_⟩;refine aq.at_ ?_ rfl
    conv=>whnf
    refine And.intro ?_ ?_<;>conv=>whnf
    all_goals repeat' (first|(refine gV ?_;first|refine vE ?_|refine vI ?_|(refine WkN.sl ?_ ?_;(focus (simp[AV.norm,AV.aj,hs,Tm.tJ,Tm.avw];done))))|refine gX (xB ?_)|exact True.intro)<;>conv=>whnf
   .have hs:=Gi (a:=y.1.args) hi h0
    conv=>whnf
    repeat' (first|(refine gC ?_;first|refine cN ?_|(refine gD ?_;first|refine cI ?_|refine cJ ?_)|refine ae.le (λhc=>?_) (λhc=>?_))|refine gW (wI ?_)|refine gL (.map ?_)|refine gI (gM (iE ?_)))<;>conv=>whnf
    all_goals first|(exfalso;omega)|skip
    .refine ⟨trivial,?_⟩;refine aq.at_ ?_ rfl
     conv=>whnf
     refine And.intro ?_ ?_<;>conv=>whnf
     all_goals repeat' (first|(refine gV ?_;first|refine vE ?_|refine vI ?_|(refine WkN.sl ?_ ?_;(focus (simp[AV.norm,AV.aj,hs];done))))|refine gX (xB ?_)|exact True.intro)<;>conv=>whnf
    .refine ⟨trivial,?_⟩;refine aq.at_ ?_ rfl
     conv=>whnf
     refine And.intro ?_ ?_<;>conv=>whnf
     all_goals repeat' (first|(refine gV ?_;first|refine vE ?_|refine vI ?_|(refine WkN.sl ?_ ?_;(focus (simp[AV.norm,AV.aj,hs];done))))|refine gX (xB ?_)|exact True.intro)<;>conv=>whnf
  .rw [zz]
   conv=>whnf
   repeat' (first|refine gC (gD (cJ ?_))|refine ak.nrm ?_)<;>conv=>whnf
end Go.CK
namespace Go.CK
open Go.AM Go.Proofs
def tV(n:Int):Tm:=.mk 1 n .empty []
def tI(n:Int):Tm:=.mk 0 n .empty []
theorem Fx{n:Int}:Fun Tryz.prog 59 [.int .i64 n] (.agg [.int .i64 1,.int .i64 n,.str .empty,.sl .no []]):=by
 refine Fun.of (kS (by simp) ?_) rfl rfl
 conv=>whnf
 repeat' refine ak.nrm ?_<;>conv=>whnf
 rfl
theorem FA{n:Int}:Fun Tryz.prog 60 [.int .i64 n] (.agg [.int .i64 0,.int .i64 n,.str .empty,.sl .no []]):=by
 refine Fun.of (kT (by simp) ?_) rfl rfl
 conv=>whnf
 repeat' refine ak.nrm ?_<;>conv=>whnf
 rfl
def lkR:Rl:=⟨.empty,[⟨⟨⟨[112]⟩⟩,[tV 0,tV 1]⟩,⟨⟨⟨[113]⟩⟩,[tV 1,tI 3,tV 2]⟩],[],[],[],3⟩
theorem C0:Fun Tryz.prog 57 [] lkR.av:=by
 refine Fun.of (kj (by simp) ?_) rfl rfl
 conv=>whnf
 repeat' (first|(refine gF ?_;first|refine ag.fn (Fx) ?_|refine ag.fn (FA) ?_)|refine ak.nrm ?_)<;>conv=>whnf
 simp[lkR,Rl.av,At.av,tV,tI,Tm.tJ,Tm.avw,Tm.kind,Tm.num,Tm.name,Tm.args];rfl
def lkP:Pg:=⟨[],[lkR]⟩
def lkX:Pl:=⟨⟨0,0,false⟩,[1],[[0,1]],[]⟩
def lkA:Ac:=⟨⟨⟨[113]⟩⟩,3,[0,1]⟩
theorem Hs:ew lkP [lkX,lkX]=[lkA]:=by rfl
theorem EG:bc lkR [0] 1=[0,1]:=by rfl
theorem Ie:sj lkP [lkA] lkX 0=0:=by rfl
theorem Ic:sj lkP [lkA] lkX 1=-1:=by rfl
theorem Hr:ym lkP lkX 0=[tV 1,tI 3]:=by rfl
theorem qY:lkP.ok8:=λr hr=>by
 simp only[lkP,zp] at hr;subst hr;decide
theorem Ge:lkR.ok2:=by
 refine⟨by decide,λh hh=>?_⟩
 simp only[lkR,Rl.ah,zy,zI,yJ,or_false] at hh;rcases hh with rfl|rfl
 .refine ⟨by decide,by decide,λt ht=>?_⟩
  simp only[zI,yJ,or_false] at ht;rcases ht with rfl|rfl<;>decide
 .refine ⟨by decide,by decide,λt ht=>?_⟩
  simp only[zI,yJ,or_false] at ht;rcases ht with rfl|rfl|rfl<;>decide
theorem pG:Fun Tryz.prog 18 [] (.bool true):=by
 have hA:=yg (p:=lkP) (plans:=[lkX,lkX]) qY (by decide) (by decide)
 rw[Hs] at hA;have hK:=sS (r:=lkR) (done:=[0]) (head:=1) Ge.ok (by decide)
 rw[EG] at hK;have h0:=wC (p:=lkP) (l:=[lkA]) (x:=lkX) (k:=0) qY;rw[Ie] at h0;have h1:=wC (p:=lkP) (l:=[lkA]) (x:=lkX) (k:=1) qY;rw[Ic] at h1;have hY:=EL (p:=lkP) (x:=lkX) (k:=0) qY (λy hy=>by rw[show cC lkP lkX 0=some (⟨⟨⟨[113]⟩⟩,[tV 1,tI 3,tV 2]⟩,[0,1]) from rfl] at hy;cases hy;decide)
 rw[Hr] at hY;have hS:=qd (a:=[0,1]) (b:=[0,1]);have hT:=wi (l:=[tV 1,tI 3]) (m:=[tV 1,tI 3]);simp only[Tm.vF,decide_true] at hT;simp only[decide_true] at hS;simp only[slA,zQ,List.map_nil,lkA,lkX,lkP,Ac.av,Pl.av,Pg.av,tV,tI,Tm.tJ,Tm.avw,Tm.kind,Tm.num,Tm.name,Tm.args,aK] at hA hK h0 h1 hY hS hT;refine Fun.of (kn (by simp) ?_) rfl rfl
 conv=>whnf
 repeat' (first|(refine gF ?_;first|refine ag.fn (C0) ?_|refine ag.fn (hA) ?_|refine ag.fn (hK) ?_|refine ag.fn (h0) ?_|refine ag.fn (h1) ?_|refine ag.fn (hY) ?_|refine ag.fn (hS) ?_|refine ag.fn (hT) ?_|refine ag.fn (Fx) ?_|refine ag.fn (FA) ?_)|(refine gC ?_;first|refine cY ?_|(refine gD ?_;first|refine cI ?_|refine cIr ?_))|refine gL (.one ?_)|refine gI (iJ ?_)|refine ak.nrm ?_)<;>conv=>whnf
end Go.CK
namespace Go.CK
open Go.AM Go.Proofs
theorem nH(p:Tm->Bool)(l:List Tm):∀j,∀x∈bu p l j,x<(j:Int)
 |0,x,hx=>by cases hx
 |j+1,x,hx=>by
  rw[bu,zY] at hx;rcases hx with hx|hx
  .have:=nH p l j x hx;omega
  .split at hx
   .split at hx
    .simp only[zp] at hx;omega
    .cases hx
   .cases hx
theorem qh(p:Tm->Bool)(l:List Tm):∀j,(bu p l j).Pairwise (·<·)
 |0=>.nil
 |j+1=>by
  rw[bu,List.pairwise_append];refine⟨qh p l j,?_,λx hx y hy=>?_⟩
  .split
   .split
    .exact List.pairwise_singleton _ _
    .exact .nil
   .exact .nil
  .have:=nH p l j x hx;split at hy
   .split at hy
    .simp only[zp] at hy;omega
    .cases hy
   .cases hy
theorem Br(r:Rl)(done:List Int)(head:Int):(bc r done head).Pairwise (·<·):=by
 unfold bc;split
 .exact .nil
 .split
  .exact qh _ _ _
  .exact .nil
end Go.CK
namespace Go.Proofs
open Go.Shelf
def Tryz.laysIndexFunc_ren:Go.Shelf.Ren:=⟨λ|15=>196|20=>228|n=>n,λ|9=>9|23=>258|3=>3|4=>4|0=>0|21=>21|n=>n,λ|n=>n⟩
theorem Tryz.uu:Go.Proofs.LaysGw.n15 Tryz.prog Tryz.laysIndexFunc_ren:={
 mixed:=by kernel_rfl,
 f15:=Tryz.func196.trans (congrArg some (by kernel_rfl)),
 f20:=Tryz.func228.trans (congrArg some (by kernel_rfl)),
 t0:=Tryz.underlying0,
 a0:=Tryz.isAgg0,
 z0:=Tryz.sizeOf0,
 v0:=Tryz.zeroValue0,
 i0:=by kernel_rfl,
 t3:=Tryz.underlying3,
 a3:=Tryz.isAgg3,
 z3:=Tryz.sizeOf3,
 v3:=Tryz.zeroValue3,
 i3:=by kernel_rfl,
 t4:=Tryz.underlying4,
 a4:=Tryz.isAgg4,
 z4:=Tryz.sizeOf4,
 v4:=Tryz.zeroValue4,
 i4:=by kernel_rfl,
 t9:=Tryz.underlying9,
 a9:=Tryz.isAgg9,
 z9:=Tryz.sizeOf9,
 v9:=Tryz.zeroValue9,
 i9:=by kernel_rfl,
 t21:=Tryz.underlying21,
 a21:=Tryz.isAgg21,
 z21:=Tryz.sizeOf21,
 v21:=Tryz.zeroValue21,
 i21:=by kernel_rfl,
 t23:=Tryz.underlying258,
 a23:=Tryz.isAgg258,
 z23:=Tryz.sizeOf258,
 v23:=Tryz.zeroValue258,
 i23:=by kernel_rfl}
end Go.Proofs
namespace Go.CK
open Go.RowKit Go.Proofs
def bY(c:Nat):Nat:=if 97<=c/\c<=122 then 1 else if (65<=c/\c<=90)\/c=95 then 2 else if 48<=c/\c<=57 then 4 else 0
set_option maxHeartbeats 1000000 in
theorem Ex(c:Nat)(w:World):Calls Tryz.prog 195 #[.int .u8 (c:Int)] w λe w'=>e=.returned (.int .u8 (bY c:Int))/\w'=w:=by
 have d:∀(p:Prop) [Decidable p],p->decide p=true:=λp _ h=>decide_eq_true h
 by_cases h1:(97:Int)<=c
 .by_cases h2:(c:Int)<=122
  .have hv:bY c=1:=by unfold bY;rw[if_pos ⟨by omega,by omega⟩]
   rw[hv]
   go_enter Tryz.func195,Tryz.ntmps195
   go_wp2_with fail
   go_ret
   exact⟨rfl,rfl⟩
  .have hv:bY c=0:=by unfold bY;rw[if_neg (by omega),if_neg (by omega),if_neg (by omega)]
   rw[hv];have h3:(65:Int)<=c:=by omega
   have h4:¬(c:Int)<=90:=by omega
   have h5:¬(c:Int)=95:=by omega
   have h6:(48:Int)<=c:=by omega
   have h7:¬(c:Int)<=57:=by omega
   go_enter Tryz.func195,Tryz.ntmps195
   go_wp2_with fail
   go_ret
   exact⟨rfl,rfl⟩
 .by_cases h3:(65:Int)<=c
  .by_cases h4:(c:Int)<=90
   .have hv:bY c=2:=by unfold bY;rw[if_neg (by omega),if_pos (by omega)]
    rw[hv]
    go_enter Tryz.func195,Tryz.ntmps195
    go_wp2_with fail
    go_ret
    exact⟨rfl,rfl⟩
   .by_cases h5:(c:Int)=95
    .have hv:bY c=2:=by unfold bY;rw[if_neg (by omega),if_pos (by omega)]
     rw[hv]
     go_enter Tryz.func195,Tryz.ntmps195
     go_wp2_with fail
     go_ret
     exact⟨rfl,rfl⟩
    .have h6:(48:Int)<=c:=by omega
     have h7:¬(c:Int)<=57:=by omega
     have hv:bY c=0:=by unfold bY;rw[if_neg (by omega),if_neg (by omega),if_neg (by omega)]
     rw[hv]
     go_enter Tryz.func195,Tryz.ntmps195
     go_wp2_with fail
     go_ret
     exact⟨rfl,rfl⟩
  .have h5:¬(c:Int)=95:=by omega
   by_cases h6:(48:Int)<=c
   .by_cases h7:(c:Int)<=57
    .have hv:bY c=4:=by unfold bY;rw[if_neg (by omega),if_neg (by omega),if_pos (by omega)]
     rw[hv]
     go_enter Tryz.func195,Tryz.ntmps195
     go_wp2_with fail
     go_ret
     exact⟨rfl,rfl⟩
    .have hv:bY c=0:=by unfold bY;rw[if_neg (by omega),if_neg (by omega),if_neg (by omega)]
     rw[hv]
     go_enter Tryz.func195,Tryz.ntmps195
     go_wp2_with fail
     go_ret
     exact⟨rfl,rfl⟩
   .have hv:bY c=0:=by unfold bY;rw[if_neg (by omega),if_neg (by omega),if_neg (by omega)]
    rw[hv]
    go_enter Tryz.func195,Tryz.ntmps195
    go_wp2_with fail
    go_ret
    exact⟨rfl,rfl⟩
def lk(r:Nat):Bool:=decide (122<r)||decide (bY r=0)
theorem CE(c:Nat):((bY c:Int)=0/\bY c=0)\/((bY c=1\/bY c=2\/bY c=4)):=by
 unfold bY;split
 .exact .inr (.inl rfl)
 .split
  .exact .inr (.inr (.inl rfl))
  .split
   .exact .inr (.inr (.inr rfl))
   .exact .inl ⟨rfl,rfl⟩
set_option maxHeartbeats 1000000 in
theorem CQ(r:Nat)(w:World):Calls Tryz.prog 197 #[.int .i32 (r:Int)] w λe w'=>e=.returned (.bool (lk r))/\w'=w:=by
 by_cases h1:(122:Int)<r
 .have hv:lk r=true:=by unfold lk;rw[decide_eq_true (by omega:122<r)];rfl
  rw[hv]
  go_enter Tryz.func197,Tryz.ntmps197
  go_wp2_with fail
  go_ret
  exact⟨rfl,rfl⟩
 .have hc:=Ex (r:Nat) w;rcases CE r with ⟨_,h2⟩|h2
  .have hv:lk r=true:=by unfold lk;rw[decide_eq_true h2,Bool.or_true]
   rw[hv];rw[h2] at hc;have hc:Calls Tryz.prog 195 #[.int .u8 (r:Int)] w λe w'=>e=.returned (.int .u8 0)/\w'=w:=hc
   go_enter Tryz.func197,Tryz.ntmps197
   go_wp2_with (go_at_call 195;refine hc.mono ?_;rintro e w' ⟨rfl,rfl⟩)
   go_ret
   exact⟨rfl,rfl⟩
  .have hv:lk r=false:=by unfold lk;rw[decide_eq_false (by omega:¬122<r),decide_eq_false (by omega:¬bY r=0)];rfl
   rw[hv];rcases h2 with h2|h2|h2<;>rw[h2] at hc
   .have hc:Calls Tryz.prog 195 #[.int .u8 (r:Int)] w λe w'=>e=.returned (.int .u8 1)/\w'=w:=hc
    go_enter Tryz.func197,Tryz.ntmps197
    go_wp2_with (go_at_call 195;refine hc.mono ?_;rintro e w' ⟨rfl,rfl⟩)
    go_ret
    exact⟨rfl,rfl⟩
   .have hc:Calls Tryz.prog 195 #[.int .u8 (r:Int)] w λe w'=>e=.returned (.int .u8 2)/\w'=w:=hc
    go_enter Tryz.func197,Tryz.ntmps197
    go_wp2_with (go_at_call 195;refine hc.mono ?_;rintro e w' ⟨rfl,rfl⟩)
    go_ret
    exact⟨rfl,rfl⟩
   .have hc:Calls Tryz.prog 195 #[.int .u8 (r:Int)] w λe w'=>e=.returned (.int .u8 4)/\w'=w:=hc
    go_enter Tryz.func197,Tryz.ntmps197
    go_wp2_with (go_at_call 195;refine hc.mono ?_;rintro e w' ⟨rfl,rfl⟩)
    go_ret
    exact⟨rfl,rfl⟩
end Go.CK
namespace Go.AM
open Go.CK Go.RowKit Go.Proofs
theorem Fun.F1{P:Program}{f:FuncId}{ab:List AV}{r:AV}{v:Value}(hr:∀M σ n,RV M σ n r v)(h:∀(M:Hp) (σ:Nat->Nat) (n:Nat) (w:World) (args:List Value),M.le (Hp.of w)->args.length=ab.length->(∀j (hj:j<ab.length) v,args[j]? =some v->RV M σ n ab[j] v)->Calls P f args.toArray w λe w'=>e=.returned v/\Below w.heap.size w w'):Fun P f ab r:=by
 intro bs E G a0 w args lo hs hl hv;refine(h G.M G.σ bs.length w args hs.ok hl hv).mono ?_;rintro e w' ⟨rfl,hb⟩;have hMlt:∀B o u,G.M B o=some u->B<w.heap.size:=λB o u hu=>Hp.lt hs.ok hu;have h0:=hs.xP (dY G bs w 1) ⟨#[v],[]⟩ (Fr.refl _ _ _) rfl bs.length rfl (zG _) (λ_ _=>rfl) (λB hB=>.inl hB) rfl;have h1:=h0.grow (M':=G.M) (w':=w') ⟨hb.os,hb.tape,hb.output,hb.size,Hp.le_refl _,λB hB _=>hb.block B hB,λ_ _ _ _=>rfl⟩ (λB o u hu=>(hb.cell (p:=⟨B,o,none⟩) (hMlt B o u hu)).trans (hs.ok _ _ _ hu));exact⟨_,_,_,_,rfl,⟨rfl,rfl⟩,h1.put (k:=0) Zs (x:=r) (hr _ _ _)⟩
end Go.AM
namespace Go.CK
open Go.AM Go.RowKit Go.Proofs
theorem get0{s:ByteArray}(h:0<s.size):s.get! 0=s[0]'h:=by
 show s.data[0]! =s.data[0];exact getElem!_pos s.data 0 h
def lO(s:ByteArray):Bool:=decide (1<=s.size/\s.size<=40)&&(decide (bY (s.get! 0).toNat=1)&&decide (Lib.idxFunc lk true (s.extract 1 s.size)<0))
set_option maxHeartbeats 1000000 in
theorem DO(s:ByteArray)(hs:s.size<=4294967296)(w:World):Calls Tryz.prog 148 #[.string s,.int .u8 1] w λe w'=>e=.returned (.bool (lO s))/\Below w.heap.size w w':=by
 by_cases h0:s=⟨⟨[]⟩⟩
 .subst h0
  go_enter Tryz.func148,Tryz.ntmps148
  go_wp2_with fail
  go_ret
  exact⟨rfl,Below.refl _ _⟩
 .have hpos:0<s.size:=Nat.pos_of_ne_zero λe=>h0 (ByteArray.ext (Array.eq_empty_of_size_eq_zero e))
  have h0':(s.toList==([]:List UInt8))=false:=by
   rw[beq_eq_false_iff_ne];intro e;rw[ByteArray.toList_eq] at e;have:s.data.toList.length=0:=by rw[e];rfl
   rw[ZJ] at this;exact absurd hpos (by rw[show s.size=s.data.size from rfl,this];omega)
  by_cases h1:(40:Int)<s.size
  .have hv:lO s=false:=by unfold lO;rw[decide_eq_false (by omega)];rfl
   rw[hv]
   go_enter Tryz.func148,Tryz.ntmps148
   go_wp2_with fail
   go_ret
   exact⟨rfl,Below.refl _ _⟩
  .have hg:=get0 hpos;have hc:=Ex (s[0]'hpos).toNat w
   by_cases h2:bY (s[0]'hpos).toNat=1
   .rw [h2] at hc;have hc:Calls Tryz.prog 195 #[.int .u8 ((s[0]'hpos).toNat:Int)] w λe w'=>e=.returned (.int .u8 1)/\w'=w:=hc;have hi:=Any.strings_IndexFunc Tryz.uu 197 #[] (enters_of Tryz.func197 (by kernel_rfl) rfl) lk (s.extract 1 s.size) w λW x _=>(CQ x W).mono λe w' ⟨h1,h2⟩=>⟨h1,0,h2⟩
    have hv:lO s=decide (Lib.idxFunc lk true (s.extract 1 s.size)<0):=by unfold lO;rw[hg,decide_eq_true (show 1<=s.size/\s.size<=40 by omega),decide_eq_true h2];rfl
    rw[hv]
    go_enter Tryz.func148,Tryz.ntmps148
    go_wp2_with (first|(go_at_call 195;refine hc.mono ?_;rintro e w' ⟨rfl,rfl⟩)|(go_at_call 196;refine hi.mono ?_;rintro e w' ⟨rfl,hb⟩))
    go_ret
    exact⟨rfl,hb⟩
   .have hv:lO s=false:=by unfold lO;rw[hg,decide_eq_false h2];simp
    rw[hv];rcases CE (s[0]'hpos).toNat with ⟨_,h3⟩|h3|h3|h3
    .rw [h3] at hc;have hc:Calls Tryz.prog 195 #[.int .u8 ((s[0]'hpos).toNat:Int)] w λe w'=>e=.returned (.int .u8 0)/\w'=w:=hc
     go_enter Tryz.func148,Tryz.ntmps148
     go_wp2_with (go_at_call 195;refine hc.mono ?_;rintro e w' ⟨rfl,rfl⟩)
     go_ret
     exact⟨rfl,Below.refl _ _⟩
    .exact absurd h3 h2
    .rw [h3] at hc;have hc:Calls Tryz.prog 195 #[.int .u8 ((s[0]'hpos).toNat:Int)] w λe w'=>e=.returned (.int .u8 2)/\w'=w:=hc
     go_enter Tryz.func148,Tryz.ntmps148
     go_wp2_with (go_at_call 195;refine hc.mono ?_;rintro e w' ⟨rfl,rfl⟩)
     go_ret
     exact⟨rfl,Below.refl _ _⟩
    .rw [h3] at hc;have hc:Calls Tryz.prog 195 #[.int .u8 ((s[0]'hpos).toNat:Int)] w λe w'=>e=.returned (.int .u8 4)/\w'=w:=hc
     go_enter Tryz.func148,Tryz.ntmps148
     go_wp2_with (go_at_call 195;refine hc.mono ?_;rintro e w' ⟨rfl,rfl⟩)
     go_ret
     exact⟨rfl,Below.refl _ _⟩
end Go.CK
namespace Go.CK
open Go.AM Go.Proofs
def C2(s:ByteArray):Bool:=decide (s=⟨⟨[99,111,110,115,116,114,97,105,110,116]⟩⟩)||(decide (s=⟨⟨[116,114,117,101]⟩⟩)||(decide (s=⟨⟨[102,97,105,108]⟩⟩)||(decide (s=⟨⟨[105,115]⟩⟩)||(decide (s=⟨⟨[105,110,116]⟩⟩)||decide (s=⟨⟨[103,114,111,117,110,100]⟩⟩)))))
theorem xI(s:ByteArray):Fun Tryz.prog 149 [.str s] (.bool (C2 s)):=by
 refine Fun.of (pq (by simp) ?_) rfl rfl
 conv=>whnf
 repeat' (first|(refine gC ?_;first|refine gD (cI ?_)|refine ae.dec (λhc=>?_) (λhc=>?_))|refine ak.nrm ?_)<;>conv=>whnf
 all_goals (simp[C2, *])
theorem yt(s:ByteArray):∀(f pos:Nat),s.size<=pos+f->(Lib.idxFuncFrom lk true s f pos<0↔∀i,pos<=i->i<s.size->bY (s.get! i).toNat≠0)
 |0,pos,h=>⟨λ_ i h1 h2=>by omega,λ_=>by rw[Lib.idxFuncFrom];decide⟩
 |f+1,pos,h=>by
  rw[Lib.idxFuncFrom]
  by_cases hp:pos<s.size
  .rw [if_pos hp];have hd:=Lib.decode_at s pos;rcases Lib.decodeN_cases (s.size-pos) (s.get! pos).toNat (s.get! (pos+1)).toNat (s.get! (pos+2)).toNat (s.get! (pos+3)).toNat with ⟨h1,h2⟩|h2
   .rw [hd,h2]
    by_cases hc:bY (s.get! pos).toNat=0
    .have hb:lk (s.get! pos).toNat=true:=by unfold lk;rw[decide_eq_true hc,Bool.or_true]
     rw[if_pos hb];exact⟨λe=>by omega,λe=>absurd hc (e pos (zG _) hp)⟩
    .have hle:¬122<(s.get! pos).toNat:=by
      intro hlt;apply hc;unfold bY;rw[if_neg (by omega),if_neg (by omega),if_neg (by omega)]
     have hb:lk (s.get! pos).toNat=false:=by unfold lk;rw[decide_eq_false hle,decide_eq_false hc];rfl
     rw[if_neg (by rw[hb];decide),yt s f (pos+1) (by omega)]
     refine⟨λe i h3 h4=>?_,λe i h3 h4=>e i (by omega) h4⟩
     rcases Nat.eq_or_lt_of_le h3 with h5|h5
     .rw [<-h5];exact hc
     .exact e i h5 h4
   .have hr:128<=(Utf8.decode s pos).1/\¬(s.get! pos).toNat<128\/(s.get! pos).toNat<128:=by
     by_cases hb:(s.get! pos).toNat<128
     .exact .inr hb
     .refine .inl ⟨?_,hb⟩;rw[hd];rcases h2 with ⟨_,_,_,h5,h6⟩|⟨_,_,_,_,h5,h6⟩|⟨h6,_⟩|h6
      .rw [h6];exact h5
      .rw [h6];show 128<=_;omega
      .omega
      .rw [h6];decide
    rcases hr with ⟨hr,hb⟩|hb
    .have hbr:lk (Utf8.decode s pos).1=true:=by unfold lk;rw[decide_eq_true (by omega:122<_)];rfl
     rw[if_pos hbr];have hc:bY (s.get! pos).toNat=0:=by unfold bY;rw[if_neg (by omega),if_neg (by omega),if_neg (by omega)]
     exact⟨λe=>by omega,λe=>absurd hc (e pos (zG _) hp)⟩
    .exfalso;have:Lib.decodeN (s.size-pos) (s.get! pos).toNat (s.get! (pos+1)).toNat (s.get! (pos+2)).toNat (s.get! (pos+3)).toNat=((s.get! pos).toNat,1):=by unfold Lib.decodeN;rw[if_pos hb]
     rw[this] at h2;rcases h2 with ⟨h3,_⟩|⟨h3,_⟩|⟨h3,_⟩|h6
     .omega
     .omega
     .dsimp only at h3;omega
     .have:=congrArg Prod.fst h6;simp only at this;omega
  .rw [if_neg hp];exact⟨λ_ i h1 h2=>by omega,λ_=>by decide⟩
def ng(s:ByteArray):Bool:=decide (1<=s.size/\s.size<=40/\∀i,i<s.size->bY (s.get! i).toNat≠0)
theorem yz(s:ByteArray){i:Nat}(h:i+1<s.size):(s.extract 1 s.size).get! i=s.get! (i+1):=by
 show (s.extract 1 s.size).data[i]! =s.data[i+1]!;have h2:i+1<s.data.size:=h;have hd:(s.extract 1 s.size).data=s.data.extract 1 s.size:=by simp
 have h3:i<(s.data.extract 1 s.size).size:=by
  rw[Array.size_extract];show i<min s.data.size s.data.size-1;omega
 rw[hd,getElem!_pos s.data (i+1) h2,getElem!_pos _ i h3,Array.getElem_extract];congr 1;omega
theorem DP(s:ByteArray):lO s=(ng s&&decide (bY (s.get! 0).toNat=1)):=by
 unfold lO ng;rw[Bool.eq_iff_iff];simp only[zD,decide_eq_true_eq];have hsz:(s.extract 1 s.size).size=s.size-1:=by simp
 rw[show Lib.idxFunc lk true (s.extract 1 s.size)=Lib.idxFuncFrom lk true (s.extract 1 s.size) (s.extract 1 s.size).size 0 from rfl,yt _ _ 0 (by omega),hsz]
 constructor
 .rintro ⟨⟨h1,h2⟩,h3,h4⟩;refine⟨⟨h1,h2,λi hi=>?_⟩,h3⟩
  cases i with
  |zero=>rw[h3];decide
  |succ i=>
   rw[<-yz s hi];exact h4 i (zJ _) (by omega)
 .rintro ⟨⟨h1,h2,h4⟩,h3⟩;refine⟨⟨h1,h2⟩,h3,λi _ hi=>?_⟩;rw[yz s (by omega)]
  exact h4 (i+1) (by omega)
theorem FD(s:ByteArray):Fun Tryz.prog 148 [.str s,.int .u8 1] (.bool (lO s)):=by
 refine Fun.F1 (λM σ n=>.flat (.bool _)) λM σ n w args hM hal hv=>?_
 obtain⟨v1,v2,rfl⟩:∃v1 v2,args=[v1,v2]:=by
  match args,hal with
  |[v1,v2],_=>exact⟨v1,v2,rfl⟩
 have h1:=hv 0 (by simp) v1 rfl
 have h2:=hv 1 (by simp) v2 rfl
 simp only[ZQ,Zf] at h1 h2;obtain⟨rfl,hs⟩:=h1.cP;obtain rfl:=h2.aH;exact DO s (by unfold lim at hs;omega) w
def ek(s:ByteArray):Bool:=lO s&&!C2 s
theorem Ei(s:ByteArray):Fun Tryz.prog 95 [.str s] (.bool (ek s)):=by
 refine Fun.of (uk (by simp) ?_) rfl rfl
 conv=>whnf
 repeat' (first|(refine gF ?_;first|refine ag.fn (FD _) ?_|refine ag.fn (xI _) ?_)|(refine gC ?_;first|refine cYa ?_|refine cNa ?_|refine ae.any (λhc=>?_) (λhc=>?_))|refine ak.nrm ?_)<;>conv=>whnf
 all_goals (simp[ek, *])
def nj(s:ByteArray):Bool:=decide (s=⟨⟨[43]⟩⟩)||(decide (s=⟨⟨[45]⟩⟩)||(decide (s=⟨⟨[42]⟩⟩)||(decide (s=⟨⟨[47]⟩⟩)||decide (s=⟨⟨[37]⟩⟩))))
theorem sP(c:Nat):Fun Tryz.prog 112 [.int .u8 (c:Int)] (.bool (decide (97<=c/\c<=122))):=by
 refine Fun.of (jH (by simp) ?_) rfl rfl
 conv=>whnf
 repeat' (first|(refine gC ?_;first|(refine gD ?_;first|refine cI ?_|refine cJ ?_)|refine ae.le (λhc=>?_) (λhc=>?_))|refine ak.nrm ?_)<;>conv=>whnf
 all_goals (refine congrArg AV.bool ?_;first|rfl|(rw[decide_eq_decide];omega)|(symm;rw[decide_eq_true_iff];omega)|(symm;rw[decide_eq_false_iff_not];omega))
theorem xu(c:Nat):Fun Tryz.prog 162 [.int .u8 (c:Int)] (.bool (decide (65<=c/\c<=90))):=by
 refine Fun.of (jG (by simp) ?_) rfl rfl
 conv=>whnf
 repeat' (first|(refine gC ?_;first|(refine gD ?_;first|refine cI ?_|refine cJ ?_)|refine ae.le (λhc=>?_) (λhc=>?_))|refine ak.nrm ?_)<;>conv=>whnf
 all_goals (refine congrArg AV.bool ?_;first|rfl|(rw[decide_eq_decide];omega)|(symm;rw[decide_eq_true_iff];omega)|(symm;rw[decide_eq_false_iff_not];omega))
theorem wk(s:ByteArray):Fun Tryz.prog 113 [.str s] (.bool (C2 s)):=by
 refine Fun.of (fO (by simp) ?_) rfl rfl
 conv=>whnf
 repeat' (first|(refine gC ?_;first|refine cY ?_|(refine gD ?_;first|refine cI ?_|refine cJ ?_)|refine ae.dec (λhc=>?_) (λhc=>?_))|refine ak.nrm ?_)<;>conv=>whnf
 all_goals (simp[C2, *])
theorem Eu(s:ByteArray):Fun Tryz.prog 236 [.str s] (.bool (nj s)):=by
 refine Fun.of (fP (by simp) ?_) rfl rfl
 conv=>whnf
 repeat' (first|(refine gC ?_;first|refine cY ?_|(refine gD ?_;first|refine cI ?_|refine cJ ?_)|refine ae.dec (λhc=>?_) (λhc=>?_))|refine ak.nrm ?_)<;>conv=>whnf
 all_goals (simp[nj, *])
theorem Cy{s:ByteArray}{j:Nat}(h:j<s.size):s[j]? =some (s.get! j):=by
 rw[getElem?_pos s j h];congr 1;exact(getElem!_pos s.data j h).symm
theorem Dw(c:Nat):(bY c=0/\(¬(97<=c/\c<=122)/\¬(65<=c/\c<=90)/\¬c=95/\¬(48<=c/\c<=57)))\/(bY c≠0/\((97<=c/\c<=122)\/(65<=c/\c<=90)\/c=95\/(48<=c/\c<=57))):=by
 unfold bY
 by_cases h1:97<=c/\c<=122
 .exact .inr ⟨by rw[if_pos h1];decide,.inl h1⟩
 .by_cases h2:(65<=c/\c<=90)\/c=95
  .exact .inr ⟨by rw[if_neg h1,if_pos h2];decide,h2.elim (λh=>.inr (.inl h)) λh=>.inr (.inr (.inl h))⟩
  .by_cases h3:48<=c/\c<=57
   .exact .inr ⟨by rw[if_neg h1,if_neg h2,if_pos h3];decide,.inr (.inr (.inr h3))⟩
   .exact .inl ⟨by rw[if_neg h1,if_neg h2,if_neg h3],h1,λh=>h2 (.inl h),λh=>h2 (.inr h),h3⟩
theorem xt(s:ByteArray):Fun Tryz.prog 111 [.str s] (.bool (ng s)):=by
 refine Fun.assume rfl λhg0=>?_;have hsz:s.size<=4294967296:=ml (hg0 (.str s) (by simp))
 refine Fun.of (kg (by simp) ?_) rfl rfl
 conv=>whnf
 skip;refine az.by (fb:=true) (λ_ (j:Nat)=>⟨[(0,.str s),(3,.int .i64 (j:Int))],[],0⟩) (λj=>j<=s.size/\∀i,i<j->bY (s.get! i).toNat≠0) (λj=>s.size-j) 0 ⟨zJ _,λi h=>by omega⟩ ?_ ?_
 .exact bq
 .rintro j ⟨q1,q2⟩
  by_cases hj:j<s.size
  .obtain ⟨y,hy⟩:∃y,y=s.get! j:=⟨_,rfl⟩;have hx:s[((j:Nat):Int).toNat]? =some y:=by rw[Zk,hy];exact Cy hj
   have hbad:bY y.toNat=0->false=ng s:=λh=>by
    unfold ng;symm;rw[decide_eq_false_iff_not];rintro⟨_,_,h3⟩;exact h3 j hj (by rw[<-hy];exact h)
   obtain⟨c,hcy⟩:∃c,c=y.toNat:=⟨_,rfl⟩;rw[<-hcy] at hbad;rcases Dw c with ⟨hc,h1⟩|⟨hc,h1⟩
   .conv=>whnf
    repeat' (first|(refine gF ?_;first|refine ag.fn (sP _) ?_|refine ag.fn (xu _) ?_)|(refine gC ?_;first|refine cY ?_|refine .not ?_|(refine gD ?_;first|refine cI ?_|refine cJ ?_)|refine ae.lt (λhc=>?_) (λhc=>?_))|refine ak.nrm ?_|refine gIs (iS ?_))<;>conv=>whnf
    all_goals (exact congrArg AV.bool (hbad (by assumption)))
   .conv=>whnf
    repeat' (first|(refine gF ?_;first|refine ag.fn (sP _) ?_|refine ag.fn (xu _) ?_)|(refine gC ?_;first|refine cN ?_|refine .not ?_|(refine gD ?_;first|refine cI ?_|refine cJ ?_)|refine ae.lt (λhc=>?_) (λhc=>?_)|refine ae.dec (λhc=>?_) (λhc=>?_))|refine gW (wI ?_)|refine gIs (iS ?_))<;>conv=>whnf
    all_goals
     refine⟨j+1,⟨⟨hj,λi hi=>?_⟩,by omega⟩,?_⟩
     .rcases zt i j with h3|h3
      .exact q2 i h3
      .obtain rfl:i=j:=by omega
       rw[<-hy,<-hcy];assumption
     exact bq
  .have hall:ng s=decide (1<=s.size/\s.size<=40):=by
    unfold ng;rw[decide_eq_decide];exact⟨λh=>⟨h.1,h.2.1⟩,λh=>⟨h.1,h.2,λi hi=>q2 i (by omega)⟩⟩
   rw[hall]
   conv=>whnf
   repeat' (first|(refine gC ?_;first|(refine gD ?_;first|refine cI ?_|refine cJ ?_)|refine ae.le (λhc=>?_) (λhc=>?_))|refine ak.nrm ?_)<;>conv=>whnf
   all_goals (refine congrArg AV.bool ?_;first|rfl|(rw[decide_eq_decide];omega)|(symm;rw[decide_eq_true_iff];omega)|(symm;rw[decide_eq_false_iff_not];omega))
end Go.CK
namespace Go.CK
open Go.AM Go.Proofs
theorem Gv(c:Nat):decide (97<=c/\c<=122)=decide (bY c=1):=by
 rw[decide_eq_decide];unfold bY
 by_cases h1:97<=c/\c<=122
 .rw [if_pos h1];exact⟨λ_=>rfl,λ_=>h1⟩
 .rw [if_neg h1];refine⟨λh=>absurd h h1,λh=>?_⟩;split at h
  .cases h
  .split at h<;>cases h
theorem mQ(s:ByteArray):Fun Tryz.prog 61 [.str s] (.bool (ek s)):=by
 have he:ek s=(ng s&&(decide (bY (s.get! 0).toNat=1)&&!C2 s)):=by rw[ek,DP,Bool.and_assoc]
 rw[he]
 cases hw:ng s with
 |false=>
  have hwo:Fun Tryz.prog 111 [.str s] (.bool false):=by rw[<-hw];exact xt s
  refine Fun.of (dp (by simp) ?_) rfl rfl
  conv=>whnf
  repeat' (first|refine gF (ag.fn (hwo) ?_)|refine gC (cN ?_)|refine ak.nrm ?_)<;>conv=>whnf
  all_goals rfl
 |true=>
  have hwo:Fun Tryz.prog 111 [.str s] (.bool true):=by rw[<-hw];exact xt s
  have h1:1<=s.size:=by unfold ng at hw;exact(of_decide_eq_true hw).1
  obtain⟨y,hy⟩:∃y,y=s.get! 0:=⟨_,rfl⟩;have hx:s[(0:Int).toNat]? =some y:=by rw[hy];exact Cy (by omega)
  rw[<-hy,<-Gv];refine Fun.of (dp (by simp) ?_) rfl rfl
  conv=>whnf
  repeat' (first|(refine gF ?_;first|refine ag.fn (hwo) ?_|refine ag.fn (sP _) ?_|refine ag.fn (wk _) ?_)|(refine gC ?_;first|refine cY ?_|(refine gD ?_;first|refine cI ?_|refine cJ ?_)|refine ae.dec (λhc=>?_) (λhc=>?_))|refine ak.nrm ?_|refine gIs (iS ?_))<;>conv=>whnf
  all_goals (clear hy;refine congrArg AV.bool ?_;simp[*])
mutual
def Tm.form:Tm->Bool
 |.mk k n s l=>if k=0 then decide (-2147483648<=n/\n<=2147483648/\s=⟨⟨[]⟩⟩/\l.length=0)
  else if k=1 then decide (0<=n/\n<=1048576/\s=⟨⟨[]⟩⟩/\l.length=0)
  else if k=2 then decide (n=0/\l.length<=6)&&((ek s||(nj s&&decide (l.length=2)))&&Tm.fA l)
  else false
def Tm.fA:List Tm->Bool
 |[]=>true
 |t::r=>t.form&&Tm.fA r
end
mutual
def Tm.sz:Tm->Nat
 |.mk k _ _ l=>1+(if k=2 then Tm.szs l else 0)
def Tm.szs:List Tm->Nat
 |[]=>0
 |t::r=>t.sz+Tm.szs r
end
mutual
def Tm.dep:Tm->Nat
 |.mk k _ _ l=>(if k=2 then Tm.lK l else 0)+1
def Tm.lK:List Tm->Nat
 |[]=>0
 |t::r=>max t.dep (Tm.lK r)
end
def vB(n d:Int)(t:Tm):Bool:=t.form&&decide ((t.sz:Int)<=n/\(t.dep:Int)<=d)
def vLB(n d:Int)(l:List Tm):Bool:=Tm.fA l&&decide ((Tm.szs l:Int)<=n/\(Tm.lK l:Int)<=d)
def Tm.right(t:Tm):Bool:=vB 200 20 t
theorem rI:∀(l:List Tm) (x:Tm),Tm.szs (l++[x])=Tm.szs l+x.sz
 |[],x=>by simp[Tm.szs]
 |y::l,x=>by simp only[ze,Tm.szs,rI l x];omega
theorem ld:∀(l:List Tm) (x:Tm),Tm.fA (l++[x])=(Tm.fA l&&x.form)
 |[],x=>by simp[Tm.fA]
 |y::l,x=>by simp only[ze,Tm.fA,ld l x,Bool.and_assoc]
theorem vw:∀(l:List Tm) (x:Tm),Tm.lK (l++[x])=max (Tm.lK l) x.dep
 |[],x=>by simp[Tm.lK]
 |y::l,x=>by simp only[ze,Tm.lK,vw l x];omega
theorem rH:∀(l:List Tm) {j:Nat} {x:Tm},l[j]? =some x->Tm.szs (l.take j)+x.sz<=Tm.szs l
 |y::l,0,x,h=>by simp at h;subst h;simp only[ZK,Tm.szs];omega
 |y::l,j+1,x,h=>by
  have:=rH l (j:=j) (x:=x) (by simpa using h)
  simp only[Zy,Tm.szs];omega
 |[],j,x,h=>by simp at h
theorem vl:∀{l:List Tm} {x:Tm},Tm.fA l=true->x∈l->x.form=true
 |y::l,x,h,hm=>by
  simp only[Tm.fA,zD] at h;rcases zI.1 hm with rfl|hm
  .exact h.1
  .exact vl h.2 hm
theorem Ca{n d:Int}{t:Tm}(h:vB n d t=true):t.form=true/\(t.sz:Int)<=n/\(t.dep:Int)<=d:=by
 unfold vB at h;rw[zD,decide_eq_true_eq] at h;exact h
theorem FJ{t:Tm}(h:¬t.kind=2):t.sz=1:=by
 obtain⟨k,i,s,l⟩:=t;simp only[Tm.kind] at h;rw[Tm.sz,if_neg h]
theorem Fi{t:Tm}(h:¬t.kind=2):t.dep=1:=by
 obtain⟨k,i,s,l⟩:=t;simp only[Tm.kind] at h;rw[Tm.dep,if_neg h]
theorem GX{t:Tm}(h:t.kind=2):t.sz=1+Tm.szs t.args:=by
 obtain⟨k,i,s,l⟩:=t;simp only[Tm.kind] at h;rw[Tm.sz,if_pos h];rfl
theorem Gu{t:Tm}(h:t.kind=2):t.dep=Tm.lK t.args+1:=by
 obtain⟨k,i,s,l⟩:=t;simp only[Tm.kind] at h;rw[Tm.dep,if_pos h];rfl
theorem HC{t:Tm}(h:t.kind=0):t.form=decide (-2147483648<=t.num/\t.num<=2147483648/\t.name=⟨⟨[]⟩⟩/\t.args.length=0):=by
 obtain⟨k,i,s,l⟩:=t;simp only[Tm.kind] at h;rw[Tm.form,if_pos h];rfl
theorem HB{t:Tm}(h:t.kind=1):t.form=decide (0<=t.num/\t.num<=1048576/\t.name=⟨⟨[]⟩⟩/\t.args.length=0):=by
 obtain⟨k,i,s,l⟩:=t;simp only[Tm.kind] at h;rw[Tm.form,if_neg (by omega),if_pos h];rfl
theorem HA{t:Tm}(h:t.kind=2):t.form=(decide (t.num=0/\t.args.length<=6)&&((ek t.name||(nj t.name&&decide (t.args.length=2)))&&Tm.fA t.args)):=by
 obtain⟨k,i,s,l⟩:=t;simp only[Tm.kind] at h;rw[Tm.form,if_neg (by omega),if_neg (by omega),if_pos h];rfl
theorem Hz{t:Tm}(h0:¬t.kind=0)(h1:¬t.kind=1)(h2:¬t.kind=2):t.form=false:=by
 obtain⟨k,i,s,l⟩:=t;simp only[Tm.kind] at h0 h1 h2;rw[Tm.form,if_neg h0,if_neg h1,if_neg h2]
end Go.CK
