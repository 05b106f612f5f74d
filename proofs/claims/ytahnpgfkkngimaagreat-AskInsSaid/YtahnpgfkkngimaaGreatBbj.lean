/-
  Texts of this aQ joined (wip/gen/bundle.py),those declarations only that are needed:ArmA ArmB ArmC. By an AI agent.
-/
import Derived.Test.YtahnpgfkkngimaaGreatBbi
set_option linter.unusedSimpArgs false
set_option linter.unusedVariables false
set_option maxRecDepth 100000
namespace Go.CK
open Go.AM Go.Proofs
theorem Hd{n:Int}(h:¬(-2147483648<=n/\n<=2147483648)):inR n=false:=by unfold inR;exact decide_eq_false h
theorem I2{n:Int}(h:-2147483648<=n/\n<=2147483648):inR n=true:=by unfold inR;exact decide_eq_true h
theorem Lw(n:Int):Fun Tryz.prog 92 [.int .i64 n] (.bool (inR n)):=by
 refine Fun.of (Lv (by simp) ?_) rfl rfl
 conv=>whnf
 repeat' (first|(refine gC ?_;first|(refine gD ?_;first|refine cI ?_|refine cJ ?_)|refine aq.le (λhc=>?_) (λhc=>?_))|refine af.nrm ?_)<;>conv=>whnf
 .unfold inR;congr 1;exact decide_eq_decide.2 ⟨λh=>⟨by omega,h⟩,λh=>h.2⟩
 .rw [Hd (by omega)]
theorem Ly(s:ByteArray):Fun Tryz.prog 93 [.str s] (.bool (mz s)):=by
 refine Fun.of (Lo (by simp) ?_) rfl rfl
 conv=>whnf
 repeat' (first|(refine gC ?_;first|refine cY ?_|(refine gD ?_;first|refine cI ?_|refine cJ ?_)|refine aq.dec (λhc=>?_) (λhc=>?_))|refine af.nrm ?_)<;>conv=>whnf
 .subst hc;rfl
 .subst hc;rfl
 .subst hc;rfl
 .subst hc;rfl
 .rename_i h1 h2 h3;unfold mz;congr 1
  exact decide_eq_decide.2 ⟨λh=>.inr (.inr (.inr (.inr h))),λh=>by
   rcases h with h|h|h|h|h
   .exact absurd h h1
   .exact absurd h h2
   .exact absurd h h3
   .exact absurd h hc
   .exact h⟩
theorem Kg{a b:Int}(h:bW (a+b)):Fun Tryz.prog 159 [.int .i64 a,.int .i64 b] (.tup [.int .i64 (a+b),.int .i64 0]):=by
 unfold bW at h;refine Fun.of (wy (by simp) ?_) rfl rfl
 conv=>whnf
 repeat' (first|refine gW (wI ?_)|refine af.nrm ?_)<;>conv=>whnf
theorem Kf{a b:Int}(h:bW (a-b)):Fun Tryz.prog 160 [.int .i64 a,.int .i64 b] (.tup [.int .i64 (a-b),.int .i64 0]):=by
 unfold bW at h;refine Fun.of (wx (by simp) ?_) rfl rfl
 conv=>whnf
 repeat' (first|refine gW (wI ?_)|refine af.nrm ?_)<;>conv=>whnf
theorem Ke{a b:Int}(h:bW (a*b)):Fun Tryz.prog 161 [.int .i64 a,.int .i64 b] (.tup [.int .i64 (a*b),.int .i64 0]):=by
 unfold bW at h;refine Fun.of (wv (by simp) ?_) rfl rfl
 conv=>whnf
 repeat' (first|refine gW (wI ?_)|refine af.nrm ?_)<;>conv=>whnf
set_option maxHeartbeats 1000000 in
theorem uG(l:List Int)(hl:l.length<=100):Fun Tryz.prog 89 [.sl .no (l.map (AV.int .i64))] (.bool (l.all inR)):=by
 refine Fun.of (qX (by simp) ?_) rfl rfl
 conv=>whnf
 repeat' refine gL (.map ?_)<;>conv=>whnf
 refine aw.by (fb:=true) (λs (q:Nat)=>s.zG [(7,.int .i64 q)]) (λq=>q<=l.length/\l.all inR=(l.drop q).all inR) (λq=>l.length-q) 0 ⟨ZJ _,by rw[Xb]⟩ ?_ ?_
 .exact au
 .rintro q ⟨hq,he⟩
  by_cases hlt:q<l.length
  .obtain ⟨x,hx⟩:∃x,l[q]? =some x:=⟨_,ZA hlt⟩;have hx2:(l.map (AV.int .i64))[q]? =some (.int .i64 x):=by rw[YD,hx];rfl
   have hd:(l.drop q).all inR=(inR x&&(l.drop (q+1)).all inR):=by
    rw[ZH hlt,(ZB.1 hx).2,Yp]
   rw[hd] at he
   conv=>whnf
   repeat' (first|(refine gC ?_;first|refine cY ?_|(refine gD ?_;first|refine cI ?_|refine cJ ?_)|refine aq.lt (λhc=>?_) (λhc=>?_))|refine gW (wI ?_)|refine gI (gM (iE ?_))|refine af.nrm ?_)<;>conv=>whnf
   .rw [he,Hd (by omega)];rfl
   .rw [he,Hd (by omega)];rfl
   .refine ⟨q+1,⟨⟨hlt,by rw[he,I2 (by omega)];rfl⟩,by omega⟩,?_⟩
    exact au
  .have hq2:q=l.length:=by omega
   subst hq2;rw[Zj] at he
   conv=>whnf
   repeat' (first|refine gC (gD (cJ ?_))|refine af.nrm ?_)<;>conv=>whnf
   rw[he];rfl
theorem oa(a b:Int):Fun Tryz.prog 89 [.sl .no [.int .i64 a,.int .i64 b]] (.bool (inR a&&inR b)):=by
 have:=uG [a,b] (by simp)
 simp only[ZP,Yd,Yp,XE,Bool.and_true] at this;exact this
theorem od(a:Int):Fun Tryz.prog 89 [.sl .no [.int .i64 a]] (.bool (inR a)):=by
 have:=uG [a] (by simp)
 simp only[ZP,Yd,Yp,XE,Bool.and_true] at this;exact this
theorem r9{a b:Int}(hb:b≠0)(h1:inR a=true)(h2:inR b=true):Fun Tryz.prog 163 [.int .i64 a,.int .i64 b] (.int .i64 (a.fdiv b)):=by
 rw[<-Gv a b hb];have h3:=qk.1 h1;have h4:=BZ b h3.1 h3.2;refine Fun.of (pY (by simp) ?_) rfl rfl
 conv=>whnf
 repeat' (first|(refine gC ?_;first|refine cN ?_|refine .not ?_|(refine gD ?_;first|refine cI ?_|refine cJ ?_)|refine aq.dec (λhc=>?_) (λhc=>?_))|refine gW (wI ?_)|refine gN (nS ?_)|refine af.nrm ?_)<;>conv=>whnf
 all_goals unfold quo
 .rw [if_neg (λe=>e.1 hc)]
 .rename_i h0;rw[if_neg (λe=>e.2 (propext (decide_eq_decide.1 hc)))]
 .rename_i h0;rw[if_pos ⟨h0,λe=>hc (decide_eq_decide.2 (iff_of_eq e))⟩]
theorem LG{x:Int}(y:Int)(h1:-5000000000<=x)(h2:x<=5000000000):-5000000000<=x.tdiv y/\x.tdiv y<=5000000000:=by
 have h3:=Int.natAbs_tdiv x y;have h4:=Nat.div_le_self x.natAbs y.natAbs;have h5:(x.tdiv y).natAbs<=x.natAbs:=by rw[h3];exact h4
 omega
theorem LC{a b:Int}(hb:b≠0)(h1:inR a=true)(h2:inR b=true):Fun Tryz.prog 129 [.int .i64 a,.int .i64 b] (.int .i64 (a.fdiv b)):=by
 rw[<-LL a b hb];have h3:=qk.1 h1;have h4:=qk.1 h2;have t1:=LG (x:=a) b (by omega) (by omega)
 have t2:=LG (x:=0-a) (0-b) (by omega) (by omega)
 have t3:=LG (x:=0-b-1-(0-a)) (0-b) (by omega) (by omega)
 have t4:=LG (x:=b-1-a) b (by omega) (by omega)
 have e1:(0:Int)-a=-a:=by omega
 have e2:(0:Int)-b=-b:=by omega
 refine Fun.of (Ls (by simp) ?_) rfl rfl
 conv=>whnf
 repeat' (first|(refine gC ?_;first|refine aq.lt (λhc=>?_) (λhc=>?_)|refine aq.le (λhc=>?_) (λhc=>?_))|refine gW (wI ?_)|refine gN (nS ?_)|refine af.nrm ?_)<;>conv=>whnf
 all_goals unfold flr
 all_goals try rw[e1] at*
 all_goals try rw[e2] at*
 all_goals first|(rw[if_pos (by omega),if_pos (by omega)])|(rw[if_pos (by omega),if_neg (by omega)];congr 1;omega)|(rw[if_neg (by omega),if_pos (by omega)])|(rw[if_neg (by omega),if_neg (by omega)];congr 1;omega)|skip
end Go.CK
namespace Go.CK
open Go.AM Go.Proofs
theorem JB{s:ByteArray}(h:mz s=false):Fun Tryz.prog 128 [.str s] .nfn:=by
 have h2:=of_decide_eq_false h;have h3:¬s=⟨⟨[43]⟩⟩:=λe=>h2 (.inl e);have h4:¬s=⟨⟨[45]⟩⟩:=λe=>h2 (.inr (.inl e));have h5:¬s=⟨⟨[42]⟩⟩:=λe=>h2 (.inr (.inr (.inl e)));have h6:¬s=⟨⟨[47]⟩⟩:=λe=>h2 (.inr (.inr (.inr (.inl e))));have h7:¬s=⟨⟨[37]⟩⟩:=λe=>h2 (.inr (.inr (.inr (.inr e))));refine Fun.of (cu (by simp) ?_) rfl rfl
 conv=>whnf
 repeat' (first|refine gC (gD (cJ ?_))|refine af.nrm ?_)<;>conv=>whnf
theorem Cq:Fun Tryz.prog 128 [.str Br] (.fn (.func 159) [] []):=by
 refine Fun.of (cu (by simp) ?_) rfl rfl
 conv=>whnf
 repeat' (first|refine gC (gD (cId ?_))|refine af.nrm ?_)<;>conv=>whnf
theorem Co:Fun Tryz.prog 128 [.str Bp] (.fn (.func 160) [] []):=by
 refine Fun.of (cu (by simp) ?_) rfl rfl
 conv=>whnf
 repeat' (first|(refine gC ?_;(refine gD ?_;first|refine cId ?_|refine cJd ?_))|refine af.nrm ?_)<;>conv=>whnf
theorem Cp:Fun Tryz.prog 128 [.str Bq] (.fn (.func 161) [] []):=by
 refine Fun.of (cu (by simp) ?_) rfl rfl
 conv=>whnf
 repeat' (first|(refine gC ?_;(refine gD ?_;first|refine cId ?_|refine cJd ?_))|refine af.nrm ?_)<;>conv=>whnf
theorem uZ(f:AV)(hf:f=.fn (.func 163) [] []\/f=.fn (.func 164) [] []):AM.Sem Tryz.prog 162 [f] [] λr bs'=>r=.fn (.func 175) [] [.ptr 0 0]/\bs'=[.cells [f]]:=by
 rcases hf with rfl|rfl
 .refine dh (by simp) ?_
  conv=>whnf
  repeat' refine af.nrm ?_<;>conv=>whnf
  all_goals exact⟨rfl,rfl⟩
 .refine dh (by simp) ?_
  conv=>whnf
  repeat' refine af.nrm ?_<;>conv=>whnf
  all_goals exact⟨rfl,rfl⟩
theorem yQ:AM.Sem Tryz.prog 128 [.str zc] [] λr bs'=>r=.fn (.func 175) [] [.ptr 0 0]/\bs'=[.cells [.fn (.func 163) [] []]]:=by
 refine cu (by simp) ?_
 conv=>whnf
 repeat' (first|(refine gF ?_;refine ab.to (uZ _ (.inl rfl)) ?_)|(refine gC ?_;(refine gD ?_;first|refine cId ?_|refine cJd ?_))|refine af.nrm ?_)<;>conv=>whnf
 all_goals exact⟨rfl,rfl⟩
theorem yP:AM.Sem Tryz.prog 128 [.str cMod] [] λr bs'=>r=.fn (.func 175) [] [.ptr 0 0]/\bs'=[.cells [.fn (.func 164) [] []]]:=by
 refine cu (by simp) ?_
 conv=>whnf
 repeat' (first|(refine gF ?_;refine ab.to (uZ _ (.inr rfl)) ?_)|(refine gC ?_;(refine gD ?_;first|refine cId ?_|refine cJd ?_))|refine af.nrm ?_)<;>conv=>whnf
 all_goals exact⟨rfl,rfl⟩
theorem Kd{a b:Int}(hb:b≠0)(h1:inR a=true)(h2:inR b=true):Fun Tryz.prog 164 [.int .i64 a,.int .i64 b] (.int .i64 (a-a.fdiv b*b)):=by
 have h3:=qk.1 h1;have h4:=qk.1 h2;have h5:=uQ hb h3.1 h3.2;have h6:=qY h5.1 h5.2 h4.1 h4.2;refine Fun.of (wu (by simp) ?_) rfl rfl
 conv=>whnf
 repeat' (first|refine gF (ab.fn (r9 hb h1 h2) ?_)|refine gW (wI ?_)|refine af.nrm ?_)<;>conv=>whnf
theorem D1{a:Int}{f:AV}(hf:f=.fn (.func 163) [] []\/f=.fn (.func 164) [] []):AM.Sem Tryz.prog 175 [.int .i64 a,.int .i64 0,.ptr 0 0] [.cells [f]] λr bs'=>r=.tup [.int .i64 0,.int .i64 12]/\bs'=[.cells [f]]:=by
 rcases hf with rfl|rfl
 .refine cy (by simp) ?_
  conv=>whnf
  repeat' (first|refine gC (gD (cI ?_))|refine af.nrm ?_)<;>conv=>whnf
  all_goals exact⟨rfl,rfl⟩
 .refine cy (by simp) ?_
  conv=>whnf
  repeat' (first|refine gC (gD (cI ?_))|refine af.nrm ?_)<;>conv=>whnf
  all_goals exact⟨rfl,rfl⟩
theorem D0{a b:Int}(hb:b≠0)(h1:inR a=true)(h2:inR b=true):AM.Sem Tryz.prog 175 [.int .i64 a,.int .i64 b,.ptr 0 0] [.cells [.fn (.func 163) [] []]] λr bs'=>r=.tup [.int .i64 (a.fdiv b),.int .i64 0]/\bs'=[.cells [.fn (.func 163) [] []]]:=by
 refine cy (by simp) ?_
 conv=>whnf
 repeat' (first|refine gF (ab.fn (r9 hb h1 h2) ?_)|refine gC (gD (cJ ?_))|refine gH (hB ?_)|refine af.nrm ?_)<;>conv=>whnf
 all_goals exact⟨rfl,rfl⟩
theorem D2{a b:Int}(hb:b≠0)(h1:inR a=true)(h2:inR b=true):AM.Sem Tryz.prog 175 [.int .i64 a,.int .i64 b,.ptr 0 0] [.cells [.fn (.func 164) [] []]] λr bs'=>r=.tup [.int .i64 (a-a.fdiv b*b),.int .i64 0]/\bs'=[.cells [.fn (.func 164) [] []]]:=by
 refine cy (by simp) ?_
 conv=>whnf
 repeat' (first|refine gF (ab.fn (Kd hb h1 h2) ?_)|refine gC (gD (cJ ?_))|refine gH (hB ?_)|refine af.nrm ?_)<;>conv=>whnf
 all_goals exact⟨rfl,rfl⟩
theorem xZ{s:ByteArray}{a b x:Int}(h:mz s=true)(h2:(inR a&&inR b)=true)(hv:opv s a b=(x,0)):apply s a b=if inR x=false then (0,5) else (x,0):=by
 unfold apply;rw[h,h2,hv,if_neg (by simp),if_neg (by simp),if_neg (by simp)]
theorem x4{s:ByteArray}{a b:Int}(h:mz s=true)(h2:(inR a&&inR b)=true)(hv:opv s a b=(0,12)):apply s a b=(0,12):=by
 unfold apply;rw[h,h2,hv,if_neg (by simp),if_neg (by simp),if_pos (by simp)]
def ld(s:ByteArray)(a b:Int):AV:=.tup [.int .i64 (apply s a b).1,.int .i64 (apply s a b).2]
theorem k9{s:ByteArray}{a b x e:Int}(h:apply s a b=(x,e)):ld s a b=.tup [.int .i64 x,.int .i64 e]:=by unfold ld;rw[h]
theorem k8{s:ByteArray}{a b x:Int}(h:mz s=true)(h2:(inR a&&inR b)=true)(hv:opv s a b=(x,0))(hx:inR x=true):ld s a b=.tup [.int .i64 x,.int .i64 0]:=k9 (by rw[xZ h h2 hv,hx];rfl)
theorem la{s:ByteArray}{a b x:Int}(h:mz s=true)(h2:(inR a&&inR b)=true)(hv:opv s a b=(x,0))(hx:inR x=false):ld s a b=.tup [.int .i64 0,.int .i64 5]:=k9 (by rw[xZ h h2 hv,hx];rfl)
theorem IA{a b:Int}(hb:b≠0):opv zc a b=(a.fdiv b,0):=by
 unfold opv;rw[if_neg (by decide),if_neg (by decide),if_neg (by decide),if_neg hb,if_pos rfl]
theorem Iz{a b:Int}(hb:b≠0):opv cMod a b=(a-a.fdiv b*b,0):=by
 unfold opv;rw[if_neg (by decide),if_neg (by decide),if_neg (by decide),if_neg hb,if_neg (by decide)]
theorem IB(a b:Int):opv Br a b=(a+b,0):=by unfold opv;rw[if_pos rfl]
theorem Iw(a b:Int):opv Bp a b=(a-b,0):=by unfold opv;rw[if_neg (by decide),if_pos rfl]
theorem Iy(a b:Int):opv Bq a b=(a*b,0):=by unfold opv;rw[if_neg (by decide),if_neg (by decide),if_pos rfl]
theorem GD(a:Int):opv zc a 0=(0,12):=by
 unfold opv;rw[if_neg (by decide),if_neg (by decide),if_neg (by decide),if_pos rfl]
theorem GC(a:Int):opv cMod a 0=(0,12):=by
 unfold opv;rw[if_neg (by decide),if_neg (by decide),if_neg (by decide),if_pos rfl]
theorem pd{s:ByteArray}(h:mz s=true):s=Br\/s=Bp\/s=Bq\/s=zc\/s=cMod:=of_decide_eq_true h
theorem H9{s:ByteArray}{a b:Int}(h:mz s=false):Fun Tryz.prog 91 [.str s,.int .i64 a,.int .i64 b] (ld s a b):=by
 have hv:apply s a b=(0,7):=by unfold apply;rw[if_pos h]
 rw[k9 hv];have hof:=JB h;refine Fun.of (ay (by simp) ?_) rfl rfl
 conv=>whnf
 repeat' (first|refine gF (ab.fn (hof) ?_)|refine gC (cY ?_)|refine af.nrm ?_)<;>conv=>whnf
theorem FE{s:ByteArray}{a b:Int}(h:mz s=true)(h2:(inR a&&inR b)=false):Fun Tryz.prog 91 [.str s,.int .i64 a,.int .i64 b] (ld s a b):=by
 have hv:apply s a b=(0,5):=by unfold apply;rw[if_neg (by rw[h];decide),if_pos h2]
 rw[k9 hv];have hin:=oa a b;rw[h2] at hin;rcases pd h with rfl|rfl|rfl|rfl|rfl
 .have hof:=Cq;refine Fun.of (ay (by simp) ?_) rfl rfl
  conv=>whnf
  repeat' (first|(refine gF ?_;first|refine ab.fn (hof) ?_|refine ab.fn (hin) ?_)|(refine gC ?_;first|refine cN ?_|refine .not ?_)|refine af.nrm ?_)<;>conv=>whnf
 .have hof:=Co;refine Fun.of (ay (by simp) ?_) rfl rfl
  conv=>whnf
  repeat' (first|(refine gF ?_;first|refine ab.fn (hof) ?_|refine ab.fn (hin) ?_)|(refine gC ?_;first|refine cN ?_|refine .not ?_)|refine af.nrm ?_)<;>conv=>whnf
 .have hof:=Cp;refine Fun.of (ay (by simp) ?_) rfl rfl
  conv=>whnf
  repeat' (first|(refine gF ?_;first|refine ab.fn (hof) ?_|refine ab.fn (hin) ?_)|(refine gC ?_;first|refine cN ?_|refine .not ?_)|refine af.nrm ?_)<;>conv=>whnf
 .refine Fun.of (ay (by simp) ?_) rfl rfl
  conv=>whnf
  repeat' (first|(refine gF ?_;first|refine ab.to (yQ) ?_|refine ab.fn (hin) ?_)|(refine gC ?_;first|refine cN ?_|refine .not ?_)|refine af.nrm ?_)<;>conv=>whnf
 .refine Fun.of (ay (by simp) ?_) rfl rfl
  conv=>whnf
  repeat' (first|(refine gF ?_;first|refine ab.to (yP) ?_|refine ab.fn (hin) ?_)|(refine gC ?_;first|refine cN ?_|refine .not ?_)|refine af.nrm ?_)<;>conv=>whnf
theorem FI{a b:Int}(h2:(inR a&&inR b)=true):Fun Tryz.prog 91 [.str Br,.int .i64 a,.int .i64 b] (ld Br a b):=by
 have hin:=oa a b;rw[h2] at hin;have h3:=(ZD _ _).mp h2;have hv:=IB a b;have hi:=Ck (s:=Br) h3.1 h3.2;rw[hv] at hi;have hof:=Cq;have hop:=Kg hi;have hr:=od (a+b)
 cases hx:inR (a+b) with
 |true=>
  rw[k8 rfl h2 hv hx];rw[hx] at hr;refine Fun.of (ay (by simp) ?_) rfl rfl
  conv=>whnf
  repeat' (first|(refine gF ?_;first|refine ab.fn (hof) ?_|refine ab.fn (hin) ?_|refine ab.fn (hop) ?_|refine ab.fn (hr) ?_)|(refine gC ?_;first|refine cY ?_|refine cN ?_|refine .not ?_|refine gD (cI ?_))|refine gH (hB ?_)|refine af.nrm ?_)<;>conv=>whnf
 |false=>
  rw[la rfl h2 hv hx];rw[hx] at hr;refine Fun.of (ay (by simp) ?_) rfl rfl
  conv=>whnf
  repeat' (first|(refine gF ?_;first|refine ab.fn (hof) ?_|refine ab.fn (hin) ?_|refine ab.fn (hop) ?_|refine ab.fn (hr) ?_)|(refine gC ?_;first|refine cY ?_|refine cN ?_|refine .not ?_|(refine gD ?_;first|refine cI ?_|refine cJ ?_))|refine gH (hB ?_)|refine af.nrm ?_)<;>conv=>whnf
theorem FD{a b:Int}(h2:(inR a&&inR b)=true):Fun Tryz.prog 91 [.str Bp,.int .i64 a,.int .i64 b] (ld Bp a b):=by
 have hin:=oa a b;rw[h2] at hin;have h3:=(ZD _ _).mp h2;have hv:=Iw a b;have hi:=Ck (s:=Bp) h3.1 h3.2;rw[hv] at hi;have hof:=Co;have hop:=Kf hi;have hr:=od (a-b)
 cases hx:inR (a-b) with
 |true=>
  rw[k8 rfl h2 hv hx];rw[hx] at hr;refine Fun.of (ay (by simp) ?_) rfl rfl
  conv=>whnf
  repeat' (first|(refine gF ?_;first|refine ab.fn (hof) ?_|refine ab.fn (hin) ?_|refine ab.fn (hop) ?_|refine ab.fn (hr) ?_)|(refine gC ?_;first|refine cY ?_|refine cN ?_|refine .not ?_|refine gD (cI ?_))|refine gH (hB ?_)|refine af.nrm ?_)<;>conv=>whnf
 |false=>
  rw[la rfl h2 hv hx];rw[hx] at hr;refine Fun.of (ay (by simp) ?_) rfl rfl
  conv=>whnf
  repeat' (first|(refine gF ?_;first|refine ab.fn (hof) ?_|refine ab.fn (hin) ?_|refine ab.fn (hop) ?_|refine ab.fn (hr) ?_)|(refine gC ?_;first|refine cY ?_|refine cN ?_|refine .not ?_|(refine gD ?_;first|refine cI ?_|refine cJ ?_))|refine gH (hB ?_)|refine af.nrm ?_)<;>conv=>whnf
theorem FF{a b:Int}(h2:(inR a&&inR b)=true):Fun Tryz.prog 91 [.str Bq,.int .i64 a,.int .i64 b] (ld Bq a b):=by
 have hin:=oa a b;rw[h2] at hin;have h3:=(ZD _ _).mp h2;have hv:=Iy a b;have hi:=Ck (s:=Bq) h3.1 h3.2;rw[hv] at hi;have hof:=Cp;have hop:=Ke hi;have hr:=od (a*b)
 cases hx:inR (a*b) with
 |true=>
  rw[k8 rfl h2 hv hx];rw[hx] at hr;refine Fun.of (ay (by simp) ?_) rfl rfl
  conv=>whnf
  repeat' (first|(refine gF ?_;first|refine ab.fn (hof) ?_|refine ab.fn (hin) ?_|refine ab.fn (hop) ?_|refine ab.fn (hr) ?_)|(refine gC ?_;first|refine cY ?_|refine cN ?_|refine .not ?_|refine gD (cI ?_))|refine gH (hB ?_)|refine af.nrm ?_)<;>conv=>whnf
 |false=>
  rw[la rfl h2 hv hx];rw[hx] at hr;refine Fun.of (ay (by simp) ?_) rfl rfl
  conv=>whnf
  repeat' (first|(refine gF ?_;first|refine ab.fn (hof) ?_|refine ab.fn (hin) ?_|refine ab.fn (hop) ?_|refine ab.fn (hr) ?_)|(refine gC ?_;first|refine cY ?_|refine cN ?_|refine .not ?_|(refine gD ?_;first|refine cI ?_|refine cJ ?_))|refine gH (hB ?_)|refine af.nrm ?_)<;>conv=>whnf
theorem FH{a b:Int}(h2:(inR a&&inR b)=true):Fun Tryz.prog 91 [.str zc,.int .i64 a,.int .i64 b] (ld zc a b):=by
 have hin:=oa a b;rw[h2] at hin;have h3:=(ZD _ _).mp h2
 by_cases hb:b=0
 .subst hb;rw[k9 (x4 rfl h2 (GD a))];refine Fun.of (ay (by simp) ?_) rfl rfl
  conv=>whnf
  repeat' (first|(refine gF ?_;first|refine ab.to (yQ) ?_|refine ab.fn (hin) ?_|refine ab.to (D1 (.inl rfl)) ?_)|(refine gC ?_;first|refine cY ?_|refine cN ?_|refine .not ?_|refine gD (cJ ?_))|refine gH (hB ?_))<;>conv=>whnf
  refine af.lay [] oko ?_
  conv=>whnf
  repeat' refine af.nrm ?_<;>conv=>whnf
 .have hv:=IA (a:=a) hb;have hr:=od (a.fdiv b)
  cases hx:inR (a.fdiv b) with
  |true=>
   rw[k8 rfl h2 hv hx];rw[hx] at hr;refine Fun.of (ay (by simp) ?_) rfl rfl
   conv=>whnf
   repeat' (first|(refine gF ?_;first|refine ab.to (yQ) ?_|refine ab.fn (hin) ?_|refine ab.to (D0 hb h3.1 h3.2) ?_|refine ab.fn (hr) ?_)|(refine gC ?_;first|refine cY ?_|refine cN ?_|refine .not ?_|refine gD (cI ?_))|refine gH (hB ?_))<;>conv=>whnf
   refine af.lay [] oko ?_
   conv=>whnf
   repeat' refine af.nrm ?_<;>conv=>whnf
  |false=>
   rw[la rfl h2 hv hx];rw[hx] at hr;refine Fun.of (ay (by simp) ?_) rfl rfl
   conv=>whnf
   repeat' (first|(refine gF ?_;first|refine ab.to (yQ) ?_|refine ab.fn (hin) ?_|refine ab.to (D0 hb h3.1 h3.2) ?_|refine ab.fn (hr) ?_)|(refine gC ?_;first|refine cY ?_|refine cN ?_|refine .not ?_|(refine gD ?_;first|refine cI ?_|refine cJ ?_))|refine gH (hB ?_))<;>conv=>whnf
   refine af.lay [] oko ?_
   conv=>whnf
   repeat' refine af.nrm ?_<;>conv=>whnf
theorem FG{a b:Int}(h2:(inR a&&inR b)=true):Fun Tryz.prog 91 [.str cMod,.int .i64 a,.int .i64 b] (ld cMod a b):=by
 have hin:=oa a b;rw[h2] at hin;have h3:=(ZD _ _).mp h2
 by_cases hb:b=0
 .subst hb;rw[k9 (x4 rfl h2 (GC a))];refine Fun.of (ay (by simp) ?_) rfl rfl
  conv=>whnf
  repeat' (first|(refine gF ?_;first|refine ab.to (yP) ?_|refine ab.fn (hin) ?_|refine ab.to (D1 (.inr rfl)) ?_)|(refine gC ?_;first|refine cY ?_|refine cN ?_|refine .not ?_|refine gD (cJ ?_))|refine gH (hB ?_))<;>conv=>whnf
  refine af.lay [] oko ?_
  conv=>whnf
  repeat' refine af.nrm ?_<;>conv=>whnf
 .have hv:=Iz (a:=a) hb;have hr:=od (a-a.fdiv b*b)
  cases hx:inR (a-a.fdiv b*b) with
  |true=>
   rw[k8 rfl h2 hv hx];rw[hx] at hr;refine Fun.of (ay (by simp) ?_) rfl rfl
   conv=>whnf
   repeat' (first|(refine gF ?_;first|refine ab.to (yP) ?_|refine ab.fn (hin) ?_|refine ab.to (D2 hb h3.1 h3.2) ?_|refine ab.fn (hr) ?_)|(refine gC ?_;first|refine cY ?_|refine cN ?_|refine .not ?_|refine gD (cI ?_))|refine gH (hB ?_))<;>conv=>whnf
   refine af.lay [] oko ?_
   conv=>whnf
   repeat' refine af.nrm ?_<;>conv=>whnf
  |false=>
   rw[la rfl h2 hv hx];rw[hx] at hr;refine Fun.of (ay (by simp) ?_) rfl rfl
   conv=>whnf
   repeat' (first|(refine gF ?_;first|refine ab.to (yP) ?_|refine ab.fn (hin) ?_|refine ab.to (D2 hb h3.1 h3.2) ?_|refine ab.fn (hr) ?_)|(refine gC ?_;first|refine cY ?_|refine cN ?_|refine .not ?_|(refine gD ?_;first|refine cI ?_|refine cJ ?_))|refine gH (hB ?_))<;>conv=>whnf
   refine af.lay [] oko ?_
   conv=>whnf
   repeat' refine af.nrm ?_<;>conv=>whnf
theorem H8(s:ByteArray)(a b:Int):Fun Tryz.prog 91 [.str s,.int .i64 a,.int .i64 b] (ld s a b):=by
 cases h:mz s with
 |false=>exact H9 h
 |true=>
  cases h2:(inR a&&inR b) with
  |false=>exact FE h h2
  |true=>
   rcases pd h with rfl|rfl|rfl|rfl|rfl
   .exact FI h2
   .exact FD h2
   .exact FF h2
   .exact FH h2
   .exact FG h2
theorem su(k n:Int)(s:ByteArray)(l:List AV)(f:AV)(hf:f=.fn (.func 163) [] []\/f=.fn (.func 164) [] []):AM.Sem Tryz.prog 162 [f] [.cells [.int .i64 k,.int .i64 n,.str s,.sl .no l]] λr bs'=>r=.fn (.func 175) [] [.ptr 1 0]/\bs'=[.cells [.int .i64 k,.int .i64 n,.str s,.sl .no l],.cells [f]]:=by
 rcases hf with rfl|rfl
 .refine dh (by simp) ?_
  conv=>whnf
  repeat' refine af.nrm ?_<;>conv=>whnf
  all_goals exact⟨rfl,rfl⟩
 .refine dh (by simp) ?_
  conv=>whnf
  repeat' refine af.nrm ?_<;>conv=>whnf
  all_goals exact⟨rfl,rfl⟩
theorem IH(k n:Int)(s:ByteArray)(l:List AV):AM.Sem Tryz.prog 128 [.str zc] [.cells [.int .i64 k,.int .i64 n,.str s,.sl .no l]] λr bs'=>r=.fn (.func 175) [] [.ptr 1 0]/\bs'=[.cells [.int .i64 k,.int .i64 n,.str s,.sl .no l],.cells [.fn (.func 163) [] []]]:=by
 refine cu (by simp) ?_
 conv=>whnf
 repeat' (first|(refine gF ?_;refine ab.to (su k n s l _ (.inl rfl)) ?_)|(refine gC ?_;(refine gD ?_;first|refine cId ?_|refine cJd ?_))|refine af.nrm ?_)<;>conv=>whnf
 all_goals exact⟨rfl,rfl⟩
theorem IG(k n:Int)(s:ByteArray)(l:List AV):AM.Sem Tryz.prog 128 [.str cMod] [.cells [.int .i64 k,.int .i64 n,.str s,.sl .no l]] λr bs'=>r=.fn (.func 175) [] [.ptr 1 0]/\bs'=[.cells [.int .i64 k,.int .i64 n,.str s,.sl .no l],.cells [.fn (.func 164) [] []]]:=by
 refine cu (by simp) ?_
 conv=>whnf
 repeat' (first|(refine gF ?_;refine ab.to (su k n s l _ (.inr rfl)) ?_)|(refine gC ?_;(refine gD ?_;first|refine cId ?_|refine cJd ?_))|refine af.nrm ?_)<;>conv=>whnf
 all_goals exact⟨rfl,rfl⟩
def Cn(t:Tm):Bool:=decide (t.kind=2)&&(decide (t.args.length=2)&&mz t.name)
theorem Ae(t:Tm):Fun Tryz.prog 90 [t.avw] (.bool (Cn t)):=by
 unfold Cn
 by_cases h1:t.kind=2
 .rw [decide_eq_true h1,Za]
  by_cases h2:t.args.length=2
  .rw [decide_eq_true h2,Za]
   cases h:mz t.name with
   |false=>
    have hof:=JB h;refine Fun.of (a6 (by simp) ?_) rfl rfl
    conv=>whnf
    repeat' (first|refine gF (ab.fn (hof) ?_)|refine gC (gD (cI ?_))|refine gL (.map ?_)|refine af.nrm ?_)<;>conv=>whnf
   |true=>
    rcases pd h with e|e|e|e|e
    .have hof:=Cq;rw[<-e] at hof;refine Fun.of (a6 (by simp) ?_) rfl rfl
     conv=>whnf
     repeat' (first|refine gF (ab.fn (hof) ?_)|refine gC (gD (cI ?_))|refine gL (.map ?_)|refine af.nrm ?_)<;>conv=>whnf
    .have hof:=Co;rw[<-e] at hof;refine Fun.of (a6 (by simp) ?_) rfl rfl
     conv=>whnf
     repeat' (first|refine gF (ab.fn (hof) ?_)|refine gC (gD (cI ?_))|refine gL (.map ?_)|refine af.nrm ?_)<;>conv=>whnf
    .have hof:=Cp;rw[<-e] at hof;refine Fun.of (a6 (by simp) ?_) rfl rfl
     conv=>whnf
     repeat' (first|refine gF (ab.fn (hof) ?_)|refine gC (gD (cI ?_))|refine gL (.map ?_)|refine af.nrm ?_)<;>conv=>whnf
    .have hof:=IH t.kind t.num t.name (t.args.map Tm.av);rw[<-e] at hof;refine Fun.of (a6 (by simp) ?_) rfl rfl
     conv=>whnf
     repeat' (first|refine gF (ab.to (hof) ?_)|refine gC (gD (cI ?_))|refine gL (.map ?_))<;>conv=>whnf
     refine af.lay [] oko ?_
     conv=>whnf
     repeat' refine af.nrm ?_<;>conv=>whnf
    .have hof:=IG t.kind t.num t.name (t.args.map Tm.av);rw[<-e] at hof;refine Fun.of (a6 (by simp) ?_) rfl rfl
     conv=>whnf
     repeat' (first|refine gF (ab.to (hof) ?_)|refine gC (gD (cI ?_))|refine gL (.map ?_))<;>conv=>whnf
     refine af.lay [] oko ?_
     conv=>whnf
     repeat' refine af.nrm ?_<;>conv=>whnf
  .rw [decide_eq_false h2,Zu];have h3:¬((t.args.length:Int)=2):=by omega
   refine Fun.of (a6 (by simp) ?_) rfl rfl
   conv=>whnf
   repeat' (first|(refine gC ?_;(refine gD ?_;first|refine cI ?_|refine cJ ?_))|refine gL (.map ?_)|refine af.nrm ?_)<;>conv=>whnf
 .rw [decide_eq_false h1,Zu];refine Fun.of (a6 (by simp) ?_) rfl rfl
  conv=>whnf
  repeat' (first|(refine gC ?_;first|refine cN ?_|refine gD (cJ ?_))|refine af.nrm ?_)<;>conv=>whnf
end Go.CK
namespace Go.CK
open Go.AM Go.Proofs
def A8(t:Tm):AV:=.tup [.int .i64 (aR t).1,.int .i64 (aR t).2]
theorem lV{t:Tm}{x e:Int}(h:aR t=(x,e)):A8 t=.tup [.int .i64 x,.int .i64 e]:=by unfold A8;rw[h]
theorem E9{t:Tm}(h:t.kind=1):aR t=(0,17):=by
 obtain⟨k,n,s,l⟩:=t;have h:k=1:=h;rw[uV (by omega),if_pos h]
theorem Fa{t:Tm}(h:t.kind=0):aR t=if inR t.num=true then (t.num,0) else (0,5):=by
 obtain⟨k,n,s,l⟩:=t;have h:k=0:=h;rw[uV (by omega),if_neg (by omega),if_pos h];rfl
theorem Hs{t:Tm}(h0:¬t.kind=0)(h1:¬t.kind=1)(ho:Cn t=false):aR t=(0,11):=by
 obtain⟨k,n,s,l⟩:=t;have h0:¬k=0:=h0;have h1:¬k=1:=h1;have ho:(decide (k=2)&&(decide (l.length=2)&&mz s))=false:=ho
 by_cases hk:k=2
 .subst hk
  by_cases hl:l.length=2
  .obtain ⟨a,b,rfl⟩:=oK hl;rw[xP];rw[decide_eq_true rfl,decide_eq_true hl,Za,Za] at ho;rw[if_pos ho]
  .rw [Fb hl]
 .rw [uV hk,if_neg h1,if_neg h0]
theorem Hr{t a b:Tm}(h0:¬t.kind=0)(h1:¬t.kind=1)(ho:Cn t=true)(hl:t.args=[a,b]):aR t=if (aR a).2≠0 then (0,(aR a).2) else if (aR b).2≠0 then (0,(aR b).2) else apply t.name (aR a).1 (aR b).1:=by
 obtain⟨k,n,s,l⟩:=t;have hl:l=[a,b]:=hl;subst hl;have ho:(decide (k=2)&&(decide ([a,b].length=2)&&mz s))=true:=ho;rw[ZD,ZD] at ho;have hk:=of_decide_eq_true ho.1;subst hk;rw[xP,if_neg (by rw[ho.2.2];decide)];rfl
theorem GH{t:Tm}(h:Cn t=true):∃a b,t.args=[a,b]:=by
 unfold Cn at h;rw[ZD,ZD] at h;exact oK (of_decide_eq_true h.2.1)
def Kx(t:Tm)(q x y:Int):St:=⟨[(1,.ptr 0 0),(4,.ptr 1 0),(32,.int .i64 q)],[.cells [.int .i64 t.kind,.int .i64 t.num,.str t.name,.sl .no (t.args.map Tm.av)],.cells [.int .i64 x,.int .i64 y]],0⟩
set_option maxHeartbeats 1000000 in
theorem Jq(t:Tm):Fun Tryz.prog 49 [t.avw] (A8 t):=by
 induction t using Tm.bD with
 |h k n s l ih=>
 generalize ha:Tm.mk k n s l=t;have ih:∀x∈t.args,Fun Tryz.prog 49 [x.avw] (A8 x):=by subst ha;exact ih
 clear ha
 by_cases h1:t.kind=1
 .rw [lV (E9 h1)];refine Fun.of (dy (by simp) ?_) rfl rfl
  conv=>whnf
  repeat' (first|refine gC (gD (cI ?_))|refine af.nrm ?_)<;>conv=>whnf
 by_cases h0:t.kind=0
 .have hr:=od t.num;have he:=Fa h0
  cases hi:inR t.num with
  |true=>
   rw[hi] at hr he;rw[lV he];refine Fun.of (dy (by simp) ?_) rfl rfl
   conv=>whnf
   repeat' (first|refine gF (ab.fn (hr) ?_)|(refine gC ?_;first|refine cY ?_|(refine gD ?_;first|refine cI ?_|refine cJ ?_))|refine af.nrm ?_)<;>conv=>whnf
  |false=>
   rw[hi] at hr he;rw[lV he];refine Fun.of (dy (by simp) ?_) rfl rfl
   conv=>whnf
   repeat' (first|refine gF (ab.fn (hr) ?_)|(refine gC ?_;first|refine cN ?_|(refine gD ?_;first|refine cI ?_|refine cJ ?_))|refine af.nrm ?_)<;>conv=>whnf
 have hop:=Ae t
 cases ho:Cn t with
 |false=>
  rw[ho] at hop;rw[lV (Hs h0 h1 ho)];refine Fun.of (dy (by simp) ?_) rfl rfl
  conv=>whnf
  repeat' (first|refine gF (ab.fn (hop) ?_)|(refine gC ?_;first|refine cN ?_|refine .not ?_|refine gD (cJ ?_))|refine af.nrm ?_)<;>conv=>whnf
 |true=>
  rw[ho] at hop;obtain⟨a,b,hl⟩:=GH ho;have he:=Hr h0 h1 ho hl;have ea:=ih a (by rw[hl];simp)
  have eb:=ih b (by rw[hl];simp)
  have hap:=H8 t.name (aR a).1 (aR b).1;have g0:t.args[0]? =some a:=by rw[hl];rfl
  have g1:t.args[1]? =some b:=by rw[hl];rfl
  have hln:t.args.length=2:=by rw[hl];rfl
  unfold A8 at ea eb;unfold ld at hap;refine Fun.of (dy (by simp) ?_) rfl rfl
  conv=>whnf
  repeat' (first|refine gF (ab.fn (hop) ?_)|(refine gC ?_;first|refine cY ?_|refine cN ?_|refine .not ?_|refine gD (cJ ?_)))<;>conv=>whnf
  refine aw.by (fb:=true) (λ_ (q:Nat)=>match q with|0=>Kx t 0 0 0|1=>Kx t 1 (aR a).1 0|_=>Kx t 2 (aR a).1 (aR b).1) (λq=>q<=2/\(1<=q->(aR a).2=0)/\(2<=q->(aR b).2=0)) (λq=>2-q) 0 ⟨by omega,by omega,by omega⟩ ?_ ?_
  .exact au
  .rintro q ⟨q1,q2,q3⟩
   match q,q1,q2,q3 with
   |0,_,_,_=>
    by_cases hz:(aR a).2=0
    .conv=>whnf
     repeat' (first|refine gF (ab.fn (ea) ?_)|(refine gC ?_;first|refine .not ?_|refine gD (cI ?_))|refine gW (wI ?_)|refine gN (nS ?_)|refine gI (gT (iA ?_)))<;>conv=>whnf
     refine⟨1,⟨⟨by omega,λ_=>hz,by omega⟩,by omega⟩,?_⟩
     exact au
    .rw [if_pos hz] at he;rw[lV he]
     conv=>whnf
     repeat' (first|refine gF (ab.fn (ea) ?_)|(refine gC ?_;first|refine .not ?_|(refine gD ?_;first|refine cI ?_|refine cJ ?_))|refine gI (gT (iA ?_))|refine af.nrm ?_)<;>conv=>whnf
   |1,_,h2,_=>
    rw[if_neg (λe=>e (h2 (by omega)))] at he
    by_cases hz:(aR b).2=0
    .conv=>whnf
     repeat' (first|refine gF (ab.fn (eb) ?_)|(refine gC ?_;first|refine .not ?_|refine gD (cI ?_))|refine gW (wI ?_)|refine gN (nS ?_)|refine gI (gT (iA ?_)))<;>conv=>whnf
     refine⟨2,⟨⟨by omega,λ_=>h2 (by omega),λ_=>hz⟩,by omega⟩,?_⟩
     exact au
    .rw [if_pos hz] at he;rw[lV he]
     conv=>whnf
     repeat' (first|refine gF (ab.fn (eb) ?_)|(refine gC ?_;first|refine .not ?_|(refine gD ?_;first|refine cI ?_|refine cJ ?_))|refine gI (gT (iA ?_))|refine af.nrm ?_)<;>conv=>whnf
   |2,_,h2,h3=>
    rw[if_neg (λe=>e (h2 (by omega))),if_neg (λe=>e (h3 (by omega)))] at he
    unfold A8;rw[he]
    conv=>whnf
    repeat' (first|refine gF (ab.fn (hap) ?_)|refine gC (gD (cJ ?_))|refine gN (nS ?_)|refine af.nrm ?_)<;>conv=>whnf
set_option maxHeartbeats 1000000 in
theorem LJ(s:ByteArray)(a b:Int):Fun Tryz.prog 94 [.str s,.int .i64 a,.int .i64 b] (ld s a b):=by
 have hop:=Ly s;have ia:=Lw a;have ib:=Lw b
 cases h:mz s with
 |false=>
  have hv:apply s a b=(0,7):=by unfold apply;rw[if_pos h]
  rw[k9 hv];rw[h] at hop;refine Fun.of (Li (by simp) ?_) rfl rfl
  conv=>whnf
  repeat' (first|refine gF (ab.fn (hop) ?_)|(refine gC ?_;first|refine cN ?_|refine .not ?_)|refine af.nrm ?_)<;>conv=>whnf
 |true=>
  rw[h] at hop
  cases ha:inR a with
  |false=>
   have hv:apply s a b=(0,5):=by unfold apply;rw[if_neg (by rw[h];decide),if_pos (by rw[ha];rfl)]
   rw[k9 hv];rw[ha] at ia;refine Fun.of (Li (by simp) ?_) rfl rfl
   conv=>whnf
   repeat' (first|(refine gF ?_;first|refine ab.fn (hop) ?_|refine ab.fn (ia) ?_)|(refine gC ?_;first|refine cY ?_|refine cN ?_|refine .not ?_)|refine af.nrm ?_)<;>conv=>whnf
  |true=>
   rw[ha] at ia
   cases hb:inR b with
   |false=>
    have hv:apply s a b=(0,5):=by unfold apply;rw[if_neg (by rw[h];decide),if_pos (by rw[ha,hb];rfl)]
    rw[k9 hv];rw[hb] at ib;refine Fun.of (Li (by simp) ?_) rfl rfl
    conv=>whnf
    repeat' (first|(refine gF ?_;first|refine ab.fn (hop) ?_|refine ab.fn (ia) ?_|refine ab.fn (ib) ?_)|(refine gC ?_;first|refine cY ?_|refine cN ?_|refine .not ?_)|refine af.nrm ?_)<;>conv=>whnf
   |true=>
    rw[hb] at ib;have h2:(inR a&&inR b)=true:=by rw[ha,hb];rfl
    rcases pd h with rfl|rfl|rfl|rfl|rfl
    .have hv:=IB a b;have hi:=Ck (s:=Br) ha hb;rw[hv] at hi;have hi:bW (a+b):=hi;unfold bW at hi;have hr:=Lw (a+b)
     cases hx:inR (a+b) with
     |true=>
      rw[k8 rfl h2 hv hx];rw[hx] at hr;refine Fun.of (Li (by simp) ?_) rfl rfl
      conv=>whnf
      repeat' (first|(refine gF ?_;first|refine ab.fn (hop) ?_|refine ab.fn (ia) ?_|refine ab.fn (ib) ?_|refine ab.fn (hr) ?_)|(refine gC ?_;first|refine cY ?_|refine .not ?_|refine gD (cId ?_))|refine gW (wI ?_)|refine af.nrm ?_)<;>conv=>whnf
     |false=>
      rw[la rfl h2 hv hx];rw[hx] at hr;refine Fun.of (Li (by simp) ?_) rfl rfl
      conv=>whnf
      repeat' (first|(refine gF ?_;first|refine ab.fn (hop) ?_|refine ab.fn (ia) ?_|refine ab.fn (ib) ?_|refine ab.fn (hr) ?_)|(refine gC ?_;first|refine cY ?_|refine cN ?_|refine .not ?_|refine gD (cId ?_))|refine gW (wI ?_)|refine af.nrm ?_)<;>conv=>whnf
    .have hv:=Iw a b;have hi:=Ck (s:=Bp) ha hb;rw[hv] at hi;have hi:bW (a-b):=hi;unfold bW at hi;have hr:=Lw (a-b)
     cases hx:inR (a-b) with
     |true=>
      rw[k8 rfl h2 hv hx];rw[hx] at hr;refine Fun.of (Li (by simp) ?_) rfl rfl
      conv=>whnf
      repeat' (first|(refine gF ?_;first|refine ab.fn (hop) ?_|refine ab.fn (ia) ?_|refine ab.fn (ib) ?_|refine ab.fn (hr) ?_)|(refine gC ?_;first|refine cY ?_|refine .not ?_|(refine gD ?_;first|refine cId ?_|refine cJd ?_))|refine gW (wI ?_)|refine af.nrm ?_)<;>conv=>whnf
     |false=>
      rw[la rfl h2 hv hx];rw[hx] at hr;refine Fun.of (Li (by simp) ?_) rfl rfl
      conv=>whnf
      repeat' (first|(refine gF ?_;first|refine ab.fn (hop) ?_|refine ab.fn (ia) ?_|refine ab.fn (ib) ?_|refine ab.fn (hr) ?_)|(refine gC ?_;first|refine cY ?_|refine cN ?_|refine .not ?_|(refine gD ?_;first|refine cId ?_|refine cJd ?_))|refine gW (wI ?_)|refine af.nrm ?_)<;>conv=>whnf
    .have hv:=Iy a b;have hi:=Ck (s:=Bq) ha hb;rw[hv] at hi;have hi:bW (a*b):=hi;unfold bW at hi;have hr:=Lw (a*b)
     cases hx:inR (a*b) with
     |true=>
      rw[k8 rfl h2 hv hx];rw[hx] at hr;refine Fun.of (Li (by simp) ?_) rfl rfl
      conv=>whnf
      repeat' (first|(refine gF ?_;first|refine ab.fn (hop) ?_|refine ab.fn (ia) ?_|refine ab.fn (ib) ?_|refine ab.fn (hr) ?_)|(refine gC ?_;first|refine cY ?_|refine .not ?_|(refine gD ?_;first|refine cId ?_|refine cJd ?_))|refine gW (wI ?_)|refine af.nrm ?_)<;>conv=>whnf
     |false=>
      rw[la rfl h2 hv hx];rw[hx] at hr;refine Fun.of (Li (by simp) ?_) rfl rfl
      conv=>whnf
      repeat' (first|(refine gF ?_;first|refine ab.fn (hop) ?_|refine ab.fn (ia) ?_|refine ab.fn (ib) ?_|refine ab.fn (hr) ?_)|(refine gC ?_;first|refine cY ?_|refine cN ?_|refine .not ?_|(refine gD ?_;first|refine cId ?_|refine cJd ?_))|refine gW (wI ?_)|refine af.nrm ?_)<;>conv=>whnf
    .by_cases hb0:b=0
     .subst hb0;rw[k9 (x4 rfl h2 (GD a))];refine Fun.of (Li (by simp) ?_) rfl rfl
      conv=>whnf
      repeat' (first|(refine gF ?_;first|refine ab.fn (hop) ?_|refine ab.fn (ia) ?_|refine ab.fn (ib) ?_)|(refine gC ?_;first|refine cY ?_|refine .not ?_|(refine gD ?_;first|refine cI ?_|refine cJd ?_))|refine af.nrm ?_)<;>conv=>whnf
     .have hv:=IA (a:=a) hb0;have hfl:=LC hb0 ha hb;have hr:=Lw (a.fdiv b)
      cases hx:inR (a.fdiv b) with
      |true=>
       rw[k8 rfl h2 hv hx];rw[hx] at hr;refine Fun.of (Li (by simp) ?_) rfl rfl
       conv=>whnf
       repeat' (first|(refine gF ?_;first|refine ab.fn (hop) ?_|refine ab.fn (ia) ?_|refine ab.fn (ib) ?_|refine ab.fn (hfl) ?_|refine ab.fn (hr) ?_)|(refine gC ?_;first|refine cY ?_|refine .not ?_|(refine gD ?_;first|refine cJ ?_|refine cJd ?_))|refine af.nrm ?_)<;>conv=>whnf
      |false=>
       rw[la rfl h2 hv hx];rw[hx] at hr;refine Fun.of (Li (by simp) ?_) rfl rfl
       conv=>whnf
       repeat' (first|(refine gF ?_;first|refine ab.fn (hop) ?_|refine ab.fn (ia) ?_|refine ab.fn (ib) ?_|refine ab.fn (hfl) ?_|refine ab.fn (hr) ?_)|(refine gC ?_;first|refine cY ?_|refine cN ?_|refine .not ?_|(refine gD ?_;first|refine cJ ?_|refine cJd ?_))|refine af.nrm ?_)<;>conv=>whnf
    .by_cases hb0:b=0
     .subst hb0;rw[k9 (x4 rfl h2 (GC a))];refine Fun.of (Li (by simp) ?_) rfl rfl
      conv=>whnf
      repeat' (first|(refine gF ?_;first|refine ab.fn (hop) ?_|refine ab.fn (ia) ?_|refine ab.fn (ib) ?_)|(refine gC ?_;first|refine cY ?_|refine .not ?_|(refine gD ?_;first|refine cI ?_|refine cJd ?_))|refine af.nrm ?_)<;>conv=>whnf
     .have hv:=Iz (a:=a) hb0;have hfl:=LC hb0 ha hb;have g1:=qk.1 ha;have g2:=qk.1 hb;have h5:=uQ hb0 g1.1 g1.2;have h6:=qY h5.1 h5.2 g2.1 g2.2;have hr:=Lw (a-a.fdiv b*b)
      cases hx:inR (a-a.fdiv b*b) with
      |true=>
       rw[k8 rfl h2 hv hx];rw[hx] at hr;refine Fun.of (Li (by simp) ?_) rfl rfl
       conv=>whnf
       repeat' (first|(refine gF ?_;first|refine ab.fn (hop) ?_|refine ab.fn (ia) ?_|refine ab.fn (ib) ?_|refine ab.fn (hfl) ?_|refine ab.fn (hr) ?_)|(refine gC ?_;first|refine cY ?_|refine .not ?_|(refine gD ?_;first|refine cJ ?_|refine cId ?_|refine cJd ?_))|refine gW (wI ?_)|refine af.nrm ?_)<;>conv=>whnf
      |false=>
       rw[la rfl h2 hv hx];rw[hx] at hr;refine Fun.of (Li (by simp) ?_) rfl rfl
       conv=>whnf
       repeat' (first|(refine gF ?_;first|refine ab.fn (hop) ?_|refine ab.fn (ia) ?_|refine ab.fn (ib) ?_|refine ab.fn (hfl) ?_|refine ab.fn (hr) ?_)|(refine gC ?_;first|refine cY ?_|refine cN ?_|refine .not ?_|(refine gD ?_;first|refine cJ ?_|refine cId ?_|refine cJd ?_))|refine gW (wI ?_)|refine af.nrm ?_)<;>conv=>whnf
theorem LH{t:Tm}(h1:t.kind=2)(h2:t.args.length=2):Cn t=mz t.name:=by unfold Cn;rw[decide_eq_true h1,decide_eq_true h2,Za,Za]
theorem LI{t:Tm}(h:¬(t.kind=2/\t.args.length=2)):Cn t=false:=by
 unfold Cn
 by_cases h1:t.kind=2
 .rw [decide_eq_false (λe=>h ⟨h1,e⟩),Zu,Bool.and_false]
 .rw [decide_eq_false h1,Zu]
set_option maxHeartbeats 1000000 in
theorem LM(t:Tm):Fun Tryz.prog 51 [t.avw] (A8 t):=by
 induction t using Tm.bD with
 |h k n s l ih=>
 generalize ha:Tm.mk k n s l=t;have ih:∀x∈t.args,Fun Tryz.prog 51 [x.avw] (A8 x):=by subst ha;exact ih
 clear ha
 by_cases h1:t.kind=1
 .rw [lV (E9 h1)];refine Fun.of (Lj (by simp) ?_) rfl rfl
  conv=>whnf
  repeat' (first|(refine gC ?_;(refine gD ?_;first|refine cI ?_|refine cJ ?_))|refine af.nrm ?_)<;>conv=>whnf
 by_cases h0:t.kind=0
 .have hr:=Lw t.num;have he:=Fa h0
  cases hi:inR t.num with
  |true=>
   rw[hi] at hr he;rw[lV he];refine Fun.of (Lj (by simp) ?_) rfl rfl
   conv=>whnf
   repeat' (first|refine gF (ab.fn (hr) ?_)|(refine gC ?_;first|refine cY ?_|refine .not ?_|refine gD (cI ?_))|refine af.nrm ?_)<;>conv=>whnf
  |false=>
   rw[hi] at hr he;rw[lV he];refine Fun.of (Lj (by simp) ?_) rfl rfl
   conv=>whnf
   repeat' (first|refine gF (ab.fn (hr) ?_)|(refine gC ?_;first|refine cN ?_|refine .not ?_|refine gD (cI ?_))|refine af.nrm ?_)<;>conv=>whnf
 have hop:=Ly t.name
 by_cases h2:t.kind=2
 rotate_left
 .rw [lV (Hs h0 h1 (LI λe=>h2 e.1))];refine Fun.of (Lj (by simp) ?_) rfl rfl
  conv=>whnf
  repeat' (first|(refine gC ?_;first|refine cY ?_|refine .not ?_|refine gD (cJ ?_))|refine af.nrm ?_)<;>conv=>whnf
 by_cases hl2:t.args.length=2
 rotate_left
 .rw [lV (Hs h0 h1 (LI λe=>hl2 e.2))];have hl3:¬((t.args.length:Int)=2):=by omega
  cases hq:mz t.name with
  |false=>
   rw[hq] at hop;refine Fun.of (Lj (by simp) ?_) rfl rfl
   conv=>whnf
   repeat' (first|refine gF (ab.fn (hop) ?_)|(refine gC ?_;first|refine cY ?_|refine cN ?_|refine .not ?_|(refine gD ?_;first|refine cI ?_|refine cJ ?_))|refine af.nrm ?_)<;>conv=>whnf
  |true=>
   rw[hq] at hop;refine Fun.of (Lj (by simp) ?_) rfl rfl
   conv=>whnf
   repeat' (first|refine gF (ab.fn (hop) ?_)|(refine gC ?_;first|refine cY ?_|refine .not ?_|(refine gD ?_;first|refine cI ?_|refine cJ ?_))|refine gL (.map ?_)|refine af.nrm ?_)<;>conv=>whnf
 cases ho:mz t.name with
 |false=>
  rw[ho] at hop;rw[lV (Hs h0 h1 ((LH h2 hl2).trans ho))];refine Fun.of (Lj (by simp) ?_) rfl rfl
  conv=>whnf
  repeat' (first|refine gF (ab.fn (hop) ?_)|(refine gC ?_;first|refine cY ?_|refine cN ?_|refine .not ?_|(refine gD ?_;first|refine cI ?_|refine cJ ?_))|refine af.nrm ?_)<;>conv=>whnf
 |true=>
  rw[ho] at hop;have ho2:=(LH h2 hl2).trans ho;obtain⟨a,b,hl⟩:=GH ho2;have he:=Hr h0 h1 ho2 hl;have ea:=ih a (by rw[hl];simp)
  have eb:=ih b (by rw[hl];simp)
  have hap:=LJ t.name (aR a).1 (aR b).1;have g0:t.args[0]? =some a:=by rw[hl];rfl
  have g1:t.args[1]? =some b:=by rw[hl];rfl
  unfold A8 at ea eb;unfold ld at hap
  by_cases hz:(aR a).2=0
  .rw [if_neg (λe=>e hz)] at he
   by_cases hy:(aR b).2=0
   .rw [if_neg (λe=>e hy)] at he;unfold A8;rw[he];refine Fun.of (Lj (by simp) ?_) rfl rfl
    conv=>whnf
    repeat' (first|(refine gF ?_;first|refine ab.fn (hop) ?_|refine ab.fn (ea) ?_|refine ab.fn (eb) ?_|refine ab.fn (hap) ?_)|(refine gC ?_;first|refine cY ?_|refine .not ?_|(refine gD ?_;first|refine cI ?_|refine cJ ?_))|refine gL (.map ?_)|refine gI (gT (iA ?_))|refine af.nrm ?_)<;>conv=>whnf
   .rw [if_pos hy] at he;rw[lV he];refine Fun.of (Lj (by simp) ?_) rfl rfl
    conv=>whnf
    repeat' (first|(refine gF ?_;first|refine ab.fn (hop) ?_|refine ab.fn (ea) ?_|refine ab.fn (eb) ?_)|(refine gC ?_;first|refine cY ?_|refine .not ?_|(refine gD ?_;first|refine cI ?_|refine cJ ?_))|refine gL (.map ?_)|refine gI (gT (iA ?_))|refine af.nrm ?_)<;>conv=>whnf
  .rw [if_pos hz] at he;rw[lV he];refine Fun.of (Lj (by simp) ?_) rfl rfl
   conv=>whnf
   repeat' (first|(refine gF ?_;first|refine ab.fn (hop) ?_|refine ab.fn (ea) ?_)|(refine gC ?_;first|refine cY ?_|refine .not ?_|(refine gD ?_;first|refine cI ?_|refine cJ ?_))|refine gL (.map ?_)|refine gI (gT (iA ?_))|refine af.nrm ?_)<;>conv=>whnf
end Go.CK
