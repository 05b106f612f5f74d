/-
  Texts of this aX joined (wip/gen/bundle.py),those declarations only that are needed:ArmB ArmC. By an AI agent.
-/
import Derived.Test.YtpihbplamelcnaaGreatBbd
set_option linter.unusedSimpArgs false
set_option linter.unusedVariables false
set_option maxRecDepth 100000
namespace Go.CK
open Go.AM Go.Proofs
theorem OO{s:ByteArray}(h:oD s=false):Fun Tryz.prog 158 [.str s] .nfn:=by
 have h2:=of_decide_eq_false h;have h3:¬s=⟨⟨[43]⟩⟩:=λe=>h2 (.inl e);have h4:¬s=⟨⟨[45]⟩⟩:=λe=>h2 (.inr (.inl e));have h5:¬s=⟨⟨[42]⟩⟩:=λe=>h2 (.inr (.inr (.inl e)));have h6:¬s=⟨⟨[47]⟩⟩:=λe=>h2 (.inr (.inr (.inr (.inl e))));have h7:¬s=⟨⟨[37]⟩⟩:=λe=>h2 (.inr (.inr (.inr (.inr e))));refine Fun.of (di (by simp) ?_) rfl rfl
 conv=>whnf
 repeat' (first|refine gC (gD (cJ ?_))|refine ae.nrm ?_)<;>conv=>whnf
theorem Hw:Fun Tryz.prog 158 [.str Gp] (.fn (.func 174) [] []):=by
 refine Fun.of (di (by simp) ?_) rfl rfl
 conv=>whnf
 repeat' (first|refine gC (gD (cId ?_))|refine ae.nrm ?_)<;>conv=>whnf
theorem Hu:Fun Tryz.prog 158 [.str Gm] (.fn (.func 175) [] []):=by
 refine Fun.of (di (by simp) ?_) rfl rfl
 conv=>whnf
 repeat' (first|(refine gC ?_;(refine gD ?_;first|refine cId ?_|refine cJd ?_))|refine ae.nrm ?_)<;>conv=>whnf
theorem Hv:Fun Tryz.prog 158 [.str Gn] (.fn (.func 176) [] []):=by
 refine Fun.of (di (by simp) ?_) rfl rfl
 conv=>whnf
 repeat' (first|(refine gC ?_;(refine gD ?_;first|refine cId ?_|refine cJd ?_))|refine ae.nrm ?_)<;>conv=>whnf
theorem Aw(f:AV)(hf:f=.fn (.func 178) [] []\/f=.fn (.func 179) [] []):AM.Sem Tryz.prog 177 [f] [] λr bs'=>r=.fn (.func 184) [] [.ptr 0 0]/\bs'=[.cells [f]]:=by
 rcases hf with rfl|rfl
 .refine ei (by simp) ?_
  conv=>whnf
  repeat' refine ae.nrm ?_<;>conv=>whnf
  all_goals exact⟨rfl,rfl⟩
 .refine ei (by simp) ?_
  conv=>whnf
  repeat' refine ae.nrm ?_<;>conv=>whnf
  all_goals exact⟨rfl,rfl⟩
theorem DM:AM.Sem Tryz.prog 158 [.str Ee] [] λr bs'=>r=.fn (.func 184) [] [.ptr 0 0]/\bs'=[.cells [.fn (.func 178) [] []]]:=by
 refine di (by simp) ?_
 conv=>whnf
 repeat' (first|(refine gF ?_;refine aa.to (Aw _ (.inl rfl)) ?_)|(refine gC ?_;(refine gD ?_;first|refine cId ?_|refine cJd ?_))|refine ae.nrm ?_)<;>conv=>whnf
 all_goals exact⟨rfl,rfl⟩
theorem DL:AM.Sem Tryz.prog 158 [.str cMod] [] λr bs'=>r=.fn (.func 184) [] [.ptr 0 0]/\bs'=[.cells [.fn (.func 179) [] []]]:=by
 refine di (by simp) ?_
 conv=>whnf
 repeat' (first|(refine gF ?_;refine aa.to (Aw _ (.inr rfl)) ?_)|(refine gC ?_;(refine gD ?_;first|refine cId ?_|refine cJd ?_))|refine ae.nrm ?_)<;>conv=>whnf
 all_goals exact⟨rfl,rfl⟩
theorem Pu{a b:Int}(hb:b≠0)(h1:inR a=true)(h2:inR b=true):Fun Tryz.prog 179 [.int .i64 a,.int .i64 b] (.int .i64 (a-a.fdiv b*b)):=by
 have h3:=tq.1 h1;have h4:=tq.1 h2;have h5:=An hb h3.1 h3.2;have h6:=uy h5.1 h5.2 h4.1 h4.2;refine Fun.of (BB (by simp) ?_) rfl rfl
 conv=>whnf
 repeat' (first|refine gF (aa.fn (vj hb h1 h2) ?_)|refine gW (wI ?_)|refine ae.nrm ?_)<;>conv=>whnf
theorem Jl{a:Int}{f:AV}(hf:f=.fn (.func 178) [] []\/f=.fn (.func 179) [] []):AM.Sem Tryz.prog 184 [.int .i64 a,.int .i64 0,.ptr 0 0] [.cells [f]] λr bs'=>r=.tup [.int .i64 0,.int .i64 12]/\bs'=[.cells [f]]:=by
 rcases hf with rfl|rfl
 .refine dk (by simp) ?_
  conv=>whnf
  repeat' (first|refine gC (gD (cI ?_))|refine ae.nrm ?_)<;>conv=>whnf
  all_goals exact⟨rfl,rfl⟩
 .refine dk (by simp) ?_
  conv=>whnf
  repeat' (first|refine gC (gD (cI ?_))|refine ae.nrm ?_)<;>conv=>whnf
  all_goals exact⟨rfl,rfl⟩
theorem Jk{a b:Int}(hb:b≠0)(h1:inR a=true)(h2:inR b=true):AM.Sem Tryz.prog 184 [.int .i64 a,.int .i64 b,.ptr 0 0] [.cells [.fn (.func 178) [] []]] λr bs'=>r=.tup [.int .i64 (a.fdiv b),.int .i64 0]/\bs'=[.cells [.fn (.func 178) [] []]]:=by
 refine dk (by simp) ?_
 conv=>whnf
 repeat' (first|refine gF (aa.fn (vj hb h1 h2) ?_)|refine gC (gD (cJ ?_))|refine gH (hB ?_)|refine ae.nrm ?_)<;>conv=>whnf
 all_goals exact⟨rfl,rfl⟩
theorem Jm{a b:Int}(hb:b≠0)(h1:inR a=true)(h2:inR b=true):AM.Sem Tryz.prog 184 [.int .i64 a,.int .i64 b,.ptr 0 0] [.cells [.fn (.func 179) [] []]] λr bs'=>r=.tup [.int .i64 (a-a.fdiv b*b),.int .i64 0]/\bs'=[.cells [.fn (.func 179) [] []]]:=by
 refine dk (by simp) ?_
 conv=>whnf
 repeat' (first|refine gF (aa.fn (Pu hb h1 h2) ?_)|refine gC (gD (cJ ?_))|refine gH (hB ?_)|refine ae.nrm ?_)<;>conv=>whnf
 all_goals exact⟨rfl,rfl⟩
theorem C1{s:ByteArray}{a b x:Int}(h:oD s=true)(h2:(inR a&&inR b)=true)(hv:opv s a b=(x,0)):apply s a b=if inR x=false then (0,5) else (x,0):=by
 unfold apply;rw[h,h2,hv,if_neg (by simp),if_neg (by simp),if_neg (by simp)]
theorem C2{s:ByteArray}{a b:Int}(h:oD s=true)(h2:(inR a&&inR b)=true)(hv:opv s a b=(0,12)):apply s a b=(0,12):=by
 unfold apply;rw[h,h2,hv,if_neg (by simp),if_neg (by simp),if_pos (by simp)]
def nc(s:ByteArray)(a b:Int):AV:=.tup [.int .i64 (apply s a b).1,.int .i64 (apply s a b).2]
theorem mY{s:ByteArray}{a b x e:Int}(h:apply s a b=(x,e)):nc s a b=.tup [.int .i64 x,.int .i64 e]:=by unfold nc;rw[h]
theorem mX{s:ByteArray}{a b x:Int}(h:oD s=true)(h2:(inR a&&inR b)=true)(hv:opv s a b=(x,0))(hx:inR x=true):nc s a b=.tup [.int .i64 x,.int .i64 0]:=mY (by rw[C1 h h2 hv,hx];rfl)
theorem mZ{s:ByteArray}{a b x:Int}(h:oD s=true)(h2:(inR a&&inR b)=true)(hv:opv s a b=(x,0))(hx:inR x=false):nc s a b=.tup [.int .i64 0,.int .i64 5]:=mY (by rw[C1 h h2 hv,hx];rfl)
theorem NN{a b:Int}(hb:b≠0):opv Ee a b=(a.fdiv b,0):=by
 unfold opv;rw[if_neg (by decide),if_neg (by decide),if_neg (by decide),if_neg hb,if_pos rfl]
theorem NM{a b:Int}(hb:b≠0):opv cMod a b=(a-a.fdiv b*b,0):=by
 unfold opv;rw[if_neg (by decide),if_neg (by decide),if_neg (by decide),if_neg hb,if_neg (by decide)]
theorem NO(a b:Int):opv Gp a b=(a+b,0):=by unfold opv;rw[if_pos rfl]
theorem NK(a b:Int):opv Gm a b=(a-b,0):=by unfold opv;rw[if_neg (by decide),if_pos rfl]
theorem NL(a b:Int):opv Gn a b=(a*b,0):=by unfold opv;rw[if_neg (by decide),if_neg (by decide),if_pos rfl]
theorem LY(a:Int):opv Ee a 0=(0,12):=by
 unfold opv;rw[if_neg (by decide),if_neg (by decide),if_neg (by decide),if_pos rfl]
theorem LX(a:Int):opv cMod a 0=(0,12):=by
 unfold opv;rw[if_neg (by decide),if_neg (by decide),if_neg (by decide),if_pos rfl]
theorem rP{s:ByteArray}(h:oD s=true):s=Gp\/s=Gm\/s=Gn\/s=Ee\/s=cMod:=of_decide_eq_true h
theorem Nr{s:ByteArray}{a b:Int}(h:oD s=false):Fun Tryz.prog 140 [.str s,.int .i64 a,.int .i64 b] (nc s a b):=by
 have hv:apply s a b=(0,7):=by unfold apply;rw[if_pos h]
 rw[mY hv];have hof:=OO h;refine Fun.of (aC (by simp) ?_) rfl rfl
 conv=>whnf
 repeat' (first|refine gF (aa.fn (hof) ?_)|refine gC (cY ?_)|refine ae.nrm ?_)<;>conv=>whnf
theorem K2{s:ByteArray}{a b:Int}(h:oD s=true)(h2:(inR a&&inR b)=false):Fun Tryz.prog 140 [.str s,.int .i64 a,.int .i64 b] (nc s a b):=by
 have hv:apply s a b=(0,5):=by unfold apply;rw[if_neg (by rw[h];decide),if_pos h2]
 rw[mY hv];have hin:=qf a b;rw[h2] at hin;rcases rP h with rfl|rfl|rfl|rfl|rfl
 .have hof:=Hw;refine Fun.of (aC (by simp) ?_) rfl rfl
  conv=>whnf
  repeat' (first|(refine gF ?_;first|refine aa.fn (hof) ?_|refine aa.fn (hin) ?_)|(refine gC ?_;first|refine cN ?_|refine .not ?_)|refine ae.nrm ?_)<;>conv=>whnf
 .have hof:=Hu;refine Fun.of (aC (by simp) ?_) rfl rfl
  conv=>whnf
  repeat' (first|(refine gF ?_;first|refine aa.fn (hof) ?_|refine aa.fn (hin) ?_)|(refine gC ?_;first|refine cN ?_|refine .not ?_)|refine ae.nrm ?_)<;>conv=>whnf
 .have hof:=Hv;refine Fun.of (aC (by simp) ?_) rfl rfl
  conv=>whnf
  repeat' (first|(refine gF ?_;first|refine aa.fn (hof) ?_|refine aa.fn (hin) ?_)|(refine gC ?_;first|refine cN ?_|refine .not ?_)|refine ae.nrm ?_)<;>conv=>whnf
 .refine Fun.of (aC (by simp) ?_) rfl rfl
  conv=>whnf
  repeat' (first|(refine gF ?_;first|refine aa.to (DM) ?_|refine aa.fn (hin) ?_)|(refine gC ?_;first|refine cN ?_|refine .not ?_)|refine ae.nrm ?_)<;>conv=>whnf
 .refine Fun.of (aC (by simp) ?_) rfl rfl
  conv=>whnf
  repeat' (first|(refine gF ?_;first|refine aa.to (DL) ?_|refine aa.fn (hin) ?_)|(refine gC ?_;first|refine cN ?_|refine .not ?_)|refine ae.nrm ?_)<;>conv=>whnf
theorem K6{a b:Int}(h2:(inR a&&inR b)=true):Fun Tryz.prog 140 [.str Gp,.int .i64 a,.int .i64 b] (nc Gp a b):=by
 have hin:=qf a b;rw[h2] at hin;have h3:=(zD _ _).mp h2;have hv:=NO a b;have hi:=Ho (s:=Gp) h3.1 h3.2;rw[hv] at hi;have hof:=Hw;have hop:=Px hi;have hr:=qg (a+b)
 cases hx:inR (a+b) with
 |true=>
  rw[mX rfl h2 hv hx];rw[hx] at hr;refine Fun.of (aC (by simp) ?_) rfl rfl
  conv=>whnf
  repeat' (first|(refine gF ?_;first|refine aa.fn (hof) ?_|refine aa.fn (hin) ?_|refine aa.fn (hop) ?_|refine aa.fn (hr) ?_)|(refine gC ?_;first|refine cY ?_|refine cN ?_|refine .not ?_|refine gD (cI ?_))|refine gH (hB ?_)|refine ae.nrm ?_)<;>conv=>whnf
 |false=>
  rw[mZ rfl h2 hv hx];rw[hx] at hr;refine Fun.of (aC (by simp) ?_) rfl rfl
  conv=>whnf
  repeat' (first|(refine gF ?_;first|refine aa.fn (hof) ?_|refine aa.fn (hin) ?_|refine aa.fn (hop) ?_|refine aa.fn (hr) ?_)|(refine gC ?_;first|refine cY ?_|refine cN ?_|refine .not ?_|(refine gD ?_;first|refine cI ?_|refine cJ ?_))|refine gH (hB ?_)|refine ae.nrm ?_)<;>conv=>whnf
theorem K0{a b:Int}(h2:(inR a&&inR b)=true):Fun Tryz.prog 140 [.str Gm,.int .i64 a,.int .i64 b] (nc Gm a b):=by
 have hin:=qf a b;rw[h2] at hin;have h3:=(zD _ _).mp h2;have hv:=NK a b;have hi:=Ho (s:=Gm) h3.1 h3.2;rw[hv] at hi;have hof:=Hu;have hop:=Pw hi;have hr:=qg (a-b)
 cases hx:inR (a-b) with
 |true=>
  rw[mX rfl h2 hv hx];rw[hx] at hr;refine Fun.of (aC (by simp) ?_) rfl rfl
  conv=>whnf
  repeat' (first|(refine gF ?_;first|refine aa.fn (hof) ?_|refine aa.fn (hin) ?_|refine aa.fn (hop) ?_|refine aa.fn (hr) ?_)|(refine gC ?_;first|refine cY ?_|refine cN ?_|refine .not ?_|refine gD (cI ?_))|refine gH (hB ?_)|refine ae.nrm ?_)<;>conv=>whnf
 |false=>
  rw[mZ rfl h2 hv hx];rw[hx] at hr;refine Fun.of (aC (by simp) ?_) rfl rfl
  conv=>whnf
  repeat' (first|(refine gF ?_;first|refine aa.fn (hof) ?_|refine aa.fn (hin) ?_|refine aa.fn (hop) ?_|refine aa.fn (hr) ?_)|(refine gC ?_;first|refine cY ?_|refine cN ?_|refine .not ?_|(refine gD ?_;first|refine cI ?_|refine cJ ?_))|refine gH (hB ?_)|refine ae.nrm ?_)<;>conv=>whnf
theorem K3{a b:Int}(h2:(inR a&&inR b)=true):Fun Tryz.prog 140 [.str Gn,.int .i64 a,.int .i64 b] (nc Gn a b):=by
 have hin:=qf a b;rw[h2] at hin;have h3:=(zD _ _).mp h2;have hv:=NL a b;have hi:=Ho (s:=Gn) h3.1 h3.2;rw[hv] at hi;have hof:=Hv;have hop:=Pv hi;have hr:=qg (a*b)
 cases hx:inR (a*b) with
 |true=>
  rw[mX rfl h2 hv hx];rw[hx] at hr;refine Fun.of (aC (by simp) ?_) rfl rfl
  conv=>whnf
  repeat' (first|(refine gF ?_;first|refine aa.fn (hof) ?_|refine aa.fn (hin) ?_|refine aa.fn (hop) ?_|refine aa.fn (hr) ?_)|(refine gC ?_;first|refine cY ?_|refine cN ?_|refine .not ?_|refine gD (cI ?_))|refine gH (hB ?_)|refine ae.nrm ?_)<;>conv=>whnf
 |false=>
  rw[mZ rfl h2 hv hx];rw[hx] at hr;refine Fun.of (aC (by simp) ?_) rfl rfl
  conv=>whnf
  repeat' (first|(refine gF ?_;first|refine aa.fn (hof) ?_|refine aa.fn (hin) ?_|refine aa.fn (hop) ?_|refine aa.fn (hr) ?_)|(refine gC ?_;first|refine cY ?_|refine cN ?_|refine .not ?_|(refine gD ?_;first|refine cI ?_|refine cJ ?_))|refine gH (hB ?_)|refine ae.nrm ?_)<;>conv=>whnf
theorem K5{a b:Int}(h2:(inR a&&inR b)=true):Fun Tryz.prog 140 [.str Ee,.int .i64 a,.int .i64 b] (nc Ee a b):=by
 have hin:=qf a b;rw[h2] at hin;have h3:=(zD _ _).mp h2
 by_cases hb:b=0
 .subst hb;rw[mY (C2 rfl h2 (LY a))];refine Fun.of (aC (by simp) ?_) rfl rfl
  conv=>whnf
  repeat' (first|(refine gF ?_;first|refine aa.to (DM) ?_|refine aa.fn (hin) ?_|refine aa.to (Jl (.inl rfl)) ?_)|(refine gC ?_;first|refine cY ?_|refine cN ?_|refine .not ?_|refine gD (cJ ?_))|refine gH (hB ?_))<;>conv=>whnf
  refine ae.lay [] oko ?_
  conv=>whnf
  repeat' refine ae.nrm ?_<;>conv=>whnf
 .have hv:=NN (a:=a) hb;have hr:=qg (a.fdiv b)
  cases hx:inR (a.fdiv b) with
  |true=>
   rw[mX rfl h2 hv hx];rw[hx] at hr;refine Fun.of (aC (by simp) ?_) rfl rfl
   conv=>whnf
   repeat' (first|(refine gF ?_;first|refine aa.to (DM) ?_|refine aa.fn (hin) ?_|refine aa.to (Jk hb h3.1 h3.2) ?_|refine aa.fn (hr) ?_)|(refine gC ?_;first|refine cY ?_|refine cN ?_|refine .not ?_|refine gD (cI ?_))|refine gH (hB ?_))<;>conv=>whnf
   refine ae.lay [] oko ?_
   conv=>whnf
   repeat' refine ae.nrm ?_<;>conv=>whnf
  |false=>
   rw[mZ rfl h2 hv hx];rw[hx] at hr;refine Fun.of (aC (by simp) ?_) rfl rfl
   conv=>whnf
   repeat' (first|(refine gF ?_;first|refine aa.to (DM) ?_|refine aa.fn (hin) ?_|refine aa.to (Jk hb h3.1 h3.2) ?_|refine aa.fn (hr) ?_)|(refine gC ?_;first|refine cY ?_|refine cN ?_|refine .not ?_|(refine gD ?_;first|refine cI ?_|refine cJ ?_))|refine gH (hB ?_))<;>conv=>whnf
   refine ae.lay [] oko ?_
   conv=>whnf
   repeat' refine ae.nrm ?_<;>conv=>whnf
theorem K4{a b:Int}(h2:(inR a&&inR b)=true):Fun Tryz.prog 140 [.str cMod,.int .i64 a,.int .i64 b] (nc cMod a b):=by
 have hin:=qf a b;rw[h2] at hin;have h3:=(zD _ _).mp h2
 by_cases hb:b=0
 .subst hb;rw[mY (C2 rfl h2 (LX a))];refine Fun.of (aC (by simp) ?_) rfl rfl
  conv=>whnf
  repeat' (first|(refine gF ?_;first|refine aa.to (DL) ?_|refine aa.fn (hin) ?_|refine aa.to (Jl (.inr rfl)) ?_)|(refine gC ?_;first|refine cY ?_|refine cN ?_|refine .not ?_|refine gD (cJ ?_))|refine gH (hB ?_))<;>conv=>whnf
  refine ae.lay [] oko ?_
  conv=>whnf
  repeat' refine ae.nrm ?_<;>conv=>whnf
 .have hv:=NM (a:=a) hb;have hr:=qg (a-a.fdiv b*b)
  cases hx:inR (a-a.fdiv b*b) with
  |true=>
   rw[mX rfl h2 hv hx];rw[hx] at hr;refine Fun.of (aC (by simp) ?_) rfl rfl
   conv=>whnf
   repeat' (first|(refine gF ?_;first|refine aa.to (DL) ?_|refine aa.fn (hin) ?_|refine aa.to (Jm hb h3.1 h3.2) ?_|refine aa.fn (hr) ?_)|(refine gC ?_;first|refine cY ?_|refine cN ?_|refine .not ?_|refine gD (cI ?_))|refine gH (hB ?_))<;>conv=>whnf
   refine ae.lay [] oko ?_
   conv=>whnf
   repeat' refine ae.nrm ?_<;>conv=>whnf
  |false=>
   rw[mZ rfl h2 hv hx];rw[hx] at hr;refine Fun.of (aC (by simp) ?_) rfl rfl
   conv=>whnf
   repeat' (first|(refine gF ?_;first|refine aa.to (DL) ?_|refine aa.fn (hin) ?_|refine aa.to (Jm hb h3.1 h3.2) ?_|refine aa.fn (hr) ?_)|(refine gC ?_;first|refine cY ?_|refine cN ?_|refine .not ?_|(refine gD ?_;first|refine cI ?_|refine cJ ?_))|refine gH (hB ?_))<;>conv=>whnf
   refine ae.lay [] oko ?_
   conv=>whnf
   repeat' refine ae.nrm ?_<;>conv=>whnf
theorem Nq(s:ByteArray)(a b:Int):Fun Tryz.prog 140 [.str s,.int .i64 a,.int .i64 b] (nc s a b):=by
 cases h:oD s with
 |false=>exact Nr h
 |true=>
  cases h2:(inR a&&inR b) with
  |false=>exact K2 h h2
  |true=>
   rcases rP h with rfl|rfl|rfl|rfl|rfl
   .exact K6 h2
   .exact K0 h2
   .exact K3 h2
   .exact K5 h2
   .exact K4 h2
theorem vF(k n:Int)(s:ByteArray)(l:List AV)(f:AV)(hf:f=.fn (.func 178) [] []\/f=.fn (.func 179) [] []):AM.Sem Tryz.prog 177 [f] [.cells [.int .i64 k,.int .i64 n,.str s,.sl .no l]] λr bs'=>r=.fn (.func 184) [] [.ptr 1 0]/\bs'=[.cells [.int .i64 k,.int .i64 n,.str s,.sl .no l],.cells [f]]:=by
 rcases hf with rfl|rfl
 .refine ei (by simp) ?_
  conv=>whnf
  repeat' refine ae.nrm ?_<;>conv=>whnf
  all_goals exact⟨rfl,rfl⟩
 .refine ei (by simp) ?_
  conv=>whnf
  repeat' refine ae.nrm ?_<;>conv=>whnf
  all_goals exact⟨rfl,rfl⟩
theorem NS(k n:Int)(s:ByteArray)(l:List AV):AM.Sem Tryz.prog 158 [.str Ee] [.cells [.int .i64 k,.int .i64 n,.str s,.sl .no l]] λr bs'=>r=.fn (.func 184) [] [.ptr 1 0]/\bs'=[.cells [.int .i64 k,.int .i64 n,.str s,.sl .no l],.cells [.fn (.func 178) [] []]]:=by
 refine di (by simp) ?_
 conv=>whnf
 repeat' (first|(refine gF ?_;refine aa.to (vF k n s l _ (.inl rfl)) ?_)|(refine gC ?_;(refine gD ?_;first|refine cId ?_|refine cJd ?_))|refine ae.nrm ?_)<;>conv=>whnf
 all_goals exact⟨rfl,rfl⟩
theorem NR(k n:Int)(s:ByteArray)(l:List AV):AM.Sem Tryz.prog 158 [.str cMod] [.cells [.int .i64 k,.int .i64 n,.str s,.sl .no l]] λr bs'=>r=.fn (.func 184) [] [.ptr 1 0]/\bs'=[.cells [.int .i64 k,.int .i64 n,.str s,.sl .no l],.cells [.fn (.func 179) [] []]]:=by
 refine di (by simp) ?_
 conv=>whnf
 repeat' (first|(refine gF ?_;refine aa.to (vF k n s l _ (.inr rfl)) ?_)|(refine gC ?_;(refine gD ?_;first|refine cId ?_|refine cJd ?_))|refine ae.nrm ?_)<;>conv=>whnf
 all_goals exact⟨rfl,rfl⟩
def Hs(t:Tm):Bool:=decide (t.kind=2)&&(decide (t.args.length=2)&&oD t.name)
theorem Fj(t:Tm):Fun Tryz.prog 139 [t.avw] (.bool (Hs t)):=by
 unfold Hs
 by_cases h1:t.kind=2
 .rw [decide_eq_true h1,za]
  by_cases h2:t.args.length=2
  .rw [decide_eq_true h2,za]
   cases h:oD t.name with
   |false=>
    have hof:=OO h;refine Fun.of (bA (by simp) ?_) rfl rfl
    conv=>whnf
    repeat' (first|refine gF (aa.fn (hof) ?_)|refine gC (gD (cI ?_))|refine gL (.map ?_)|refine ae.nrm ?_)<;>conv=>whnf
   |true=>
    rcases rP h with e|e|e|e|e
    .have hof:=Hw;rw[<-e] at hof;refine Fun.of (bA (by simp) ?_) rfl rfl
     conv=>whnf
     repeat' (first|refine gF (aa.fn (hof) ?_)|refine gC (gD (cI ?_))|refine gL (.map ?_)|refine ae.nrm ?_)<;>conv=>whnf
    .have hof:=Hu;rw[<-e] at hof;refine Fun.of (bA (by simp) ?_) rfl rfl
     conv=>whnf
     repeat' (first|refine gF (aa.fn (hof) ?_)|refine gC (gD (cI ?_))|refine gL (.map ?_)|refine ae.nrm ?_)<;>conv=>whnf
    .have hof:=Hv;rw[<-e] at hof;refine Fun.of (bA (by simp) ?_) rfl rfl
     conv=>whnf
     repeat' (first|refine gF (aa.fn (hof) ?_)|refine gC (gD (cI ?_))|refine gL (.map ?_)|refine ae.nrm ?_)<;>conv=>whnf
    .have hof:=NS t.kind t.num t.name (t.args.map Tm.av);rw[<-e] at hof;refine Fun.of (bA (by simp) ?_) rfl rfl
     conv=>whnf
     repeat' (first|refine gF (aa.to (hof) ?_)|refine gC (gD (cI ?_))|refine gL (.map ?_))<;>conv=>whnf
     refine ae.lay [] oko ?_
     conv=>whnf
     repeat' refine ae.nrm ?_<;>conv=>whnf
    .have hof:=NR t.kind t.num t.name (t.args.map Tm.av);rw[<-e] at hof;refine Fun.of (bA (by simp) ?_) rfl rfl
     conv=>whnf
     repeat' (first|refine gF (aa.to (hof) ?_)|refine gC (gD (cI ?_))|refine gL (.map ?_))<;>conv=>whnf
     refine ae.lay [] oko ?_
     conv=>whnf
     repeat' refine ae.nrm ?_<;>conv=>whnf
  .rw [decide_eq_false h2,zw];have h3:¬((t.args.length:Int)=2):=by omega
   refine Fun.of (bA (by simp) ?_) rfl rfl
   conv=>whnf
   repeat' (first|(refine gC ?_;(refine gD ?_;first|refine cI ?_|refine cJ ?_))|refine gL (.map ?_)|refine ae.nrm ?_)<;>conv=>whnf
 .rw [decide_eq_false h1,zw];refine Fun.of (bA (by simp) ?_) rfl rfl
  conv=>whnf
  repeat' (first|(refine gC ?_;first|refine cN ?_|refine gD (cJ ?_))|refine ae.nrm ?_)<;>conv=>whnf
end Go.CK
namespace Go.CK
open Go.AM Go.Proofs
def KE(t:Tm):AV:=.tup [.int .i64 (aU t).1,.int .i64 (aU t).2]
theorem kT{t:Tm}{x e:Int}(h:aU t=(x,e)):KE t=.tup [.int .i64 x,.int .i64 e]:=by unfold KE;rw[h]
theorem KB{t:Tm}(h:t.kind=1):aU t=(0,17):=by
 obtain⟨k,n,s,l⟩:=t;have h:k=1:=h;rw[As (by omega),if_pos h]
theorem KC{t:Tm}(h:t.kind=0):aU t=if inR t.num=true then (t.num,0) else (0,5):=by
 obtain⟨k,n,s,l⟩:=t;have h:k=0:=h;rw[As (by omega),if_neg (by omega),if_pos h];rfl
theorem MJ{t:Tm}(h0:¬t.kind=0)(h1:¬t.kind=1)(ho:Hs t=false):aU t=(0,11):=by
 obtain⟨k,n,s,l⟩:=t;have h0:¬k=0:=h0;have h1:¬k=1:=h1;have ho:(decide (k=2)&&(decide (l.length=2)&&oD s))=false:=ho
 by_cases hk:k=2
 .subst hk
  by_cases hl:l.length=2
  .obtain ⟨a,b,rfl⟩:=qU hl;rw[CN];rw[decide_eq_true rfl,decide_eq_true hl,za,za] at ho;rw[if_pos ho]
  .rw [KD hl]
 .rw [As hk,if_neg h1,if_neg h0]
theorem MI{t a b:Tm}(h0:¬t.kind=0)(h1:¬t.kind=1)(ho:Hs t=true)(hl:t.args=[a,b]):aU t=if (aU a).2≠0 then (0,(aU a).2) else if (aU b).2≠0 then (0,(aU b).2) else apply t.name (aU a).1 (aU b).1:=by
 obtain⟨k,n,s,l⟩:=t;have hl:l=[a,b]:=hl;subst hl;have ho:(decide (k=2)&&(decide ([a,b].length=2)&&oD s))=true:=ho;rw[zD,zD] at ho;have hk:=of_decide_eq_true ho.1;subst hk;rw[CN,if_neg (by rw[ho.2.2];decide)];rfl
theorem L1{t:Tm}(h:Hs t=true):∃a b,t.args=[a,b]:=by
 unfold Hs at h;rw[zD,zD] at h;exact qU (of_decide_eq_true h.2.1)
def PK(t:Tm)(q x y:Int):St:=⟨[(1,.ptr 0 0),(4,.ptr 1 0),(32,.int .i64 q)],[.cells [.int .i64 t.kind,.int .i64 t.num,.str t.name,.sl .no (t.args.map Tm.av)],.cells [.int .i64 x,.int .i64 y]],0⟩
set_option maxHeartbeats 1000000 in
theorem JE(t:Tm):Fun Tryz.prog 115 [t.avw] (KE t):=by
 induction t using Tm.bK with
 |h k n s l ih=>
 generalize ha:Tm.mk k n s l=t;have ih:∀x∈t.args,Fun Tryz.prog 115 [x.avw] (KE x):=by subst ha;exact ih
 clear ha
 by_cases h1:t.kind=1
 .rw [kT (KB h1)];refine Fun.of (eI (by simp) ?_) rfl rfl
  conv=>whnf
  repeat' (first|refine gC (gD (cI ?_))|refine ae.nrm ?_)<;>conv=>whnf
 by_cases h0:t.kind=0
 .have hr:=qg t.num;have he:=KC h0
  cases hi:inR t.num with
  |true=>
   rw[hi] at hr he;rw[kT he];refine Fun.of (eI (by simp) ?_) rfl rfl
   conv=>whnf
   repeat' (first|refine gF (aa.fn (hr) ?_)|(refine gC ?_;first|refine cY ?_|(refine gD ?_;first|refine cI ?_|refine cJ ?_))|refine ae.nrm ?_)<;>conv=>whnf
  |false=>
   rw[hi] at hr he;rw[kT he];refine Fun.of (eI (by simp) ?_) rfl rfl
   conv=>whnf
   repeat' (first|refine gF (aa.fn (hr) ?_)|(refine gC ?_;first|refine cN ?_|(refine gD ?_;first|refine cI ?_|refine cJ ?_))|refine ae.nrm ?_)<;>conv=>whnf
 have hop:=Fj t
 cases ho:Hs t with
 |false=>
  rw[ho] at hop;rw[kT (MJ h0 h1 ho)];refine Fun.of (eI (by simp) ?_) rfl rfl
  conv=>whnf
  repeat' (first|refine gF (aa.fn (hop) ?_)|(refine gC ?_;first|refine cN ?_|refine .not ?_|refine gD (cJ ?_))|refine ae.nrm ?_)<;>conv=>whnf
 |true=>
  rw[ho] at hop;obtain⟨a,b,hl⟩:=L1 ho;have he:=MI h0 h1 ho hl;have ea:=ih a (by rw[hl];simp)
  have eb:=ih b (by rw[hl];simp)
  have hap:=Nq t.name (aU a).1 (aU b).1;have g0:t.args[0]? =some a:=by rw[hl];rfl
  have g1:t.args[1]? =some b:=by rw[hl];rfl
  have hln:t.args.length=2:=by rw[hl];rfl
  unfold KE at ea eb;unfold nc at hap;refine Fun.of (eI (by simp) ?_) rfl rfl
  conv=>whnf
  repeat' (first|refine gF (aa.fn (hop) ?_)|(refine gC ?_;first|refine cY ?_|refine cN ?_|refine .not ?_|refine gD (cJ ?_)))<;>conv=>whnf
  refine ax.by (fb:=true) (λ_ (q:Nat)=>match q with|0=>PK t 0 0 0|1=>PK t 1 (aU a).1 0|_=>PK t 2 (aU a).1 (aU b).1) (λq=>q<=2/\(1<=q->(aU a).2=0)/\(2<=q->(aU b).2=0)) (λq=>2-q) 0 ⟨by omega,by omega,by omega⟩ ?_ ?_
  .exact aH
  .rintro q ⟨q1,q2,q3⟩
   match q,q1,q2,q3 with
   |0,_,_,_=>
    by_cases hz:(aU a).2=0
    .conv=>whnf
     repeat' (first|refine gF (aa.fn (ea) ?_)|(refine gC ?_;first|refine .not ?_|refine gD (cI ?_))|refine gW (wI ?_)|refine gN (nS ?_)|refine gI (gT (iA ?_)))<;>conv=>whnf
     refine⟨1,⟨⟨by omega,λ_=>hz,by omega⟩,by omega⟩,?_⟩
     exact aH
    .rw [if_pos hz] at he;rw[kT he]
     conv=>whnf
     repeat' (first|refine gF (aa.fn (ea) ?_)|(refine gC ?_;first|refine .not ?_|(refine gD ?_;first|refine cI ?_|refine cJ ?_))|refine gI (gT (iA ?_))|refine ae.nrm ?_)<;>conv=>whnf
   |1,_,h2,_=>
    rw[if_neg (λe=>e (h2 (by omega)))] at he
    by_cases hz:(aU b).2=0
    .conv=>whnf
     repeat' (first|refine gF (aa.fn (eb) ?_)|(refine gC ?_;first|refine .not ?_|refine gD (cI ?_))|refine gW (wI ?_)|refine gN (nS ?_)|refine gI (gT (iA ?_)))<;>conv=>whnf
     refine⟨2,⟨⟨by omega,λ_=>h2 (by omega),λ_=>hz⟩,by omega⟩,?_⟩
     exact aH
    .rw [if_pos hz] at he;rw[kT he]
     conv=>whnf
     repeat' (first|refine gF (aa.fn (eb) ?_)|(refine gC ?_;first|refine .not ?_|(refine gD ?_;first|refine cI ?_|refine cJ ?_))|refine gI (gT (iA ?_))|refine ae.nrm ?_)<;>conv=>whnf
   |2,_,h2,h3=>
    rw[if_neg (λe=>e (h2 (by omega))),if_neg (λe=>e (h3 (by omega)))] at he
    unfold KE;rw[he]
    conv=>whnf
    repeat' (first|refine gF (aa.fn (hap) ?_)|refine gC (gD (cJ ?_))|refine gN (nS ?_)|refine ae.nrm ?_)<;>conv=>whnf
end Go.CK
