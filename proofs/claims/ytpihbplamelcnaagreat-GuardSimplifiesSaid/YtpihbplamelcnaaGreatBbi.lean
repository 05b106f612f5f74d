/-
  Texts of this aZ joined (wip/gen/bundle.py),those declarations only that are needed:ArmB ArmC. By an AI agent.
-/
import Derived.Test.YtpihbplamelcnaaGreatBbh
set_option linter.unusedSimpArgs false
set_option linter.unusedVariables false
set_option maxRecDepth 100000
namespace Go.CK
open Go.AM Go.Proofs
theorem NF{s:ByteArray}(h:jc s=false):Fun Tryz.prog 158 [.str s] .nfn:=by
 have h2:=of_decide_eq_false h;have h3:¬s=⟨⟨[43]⟩⟩:=λe=>h2 (.inl e);have h4:¬s=⟨⟨[45]⟩⟩:=λe=>h2 (.inr (.inl e));have h5:¬s=⟨⟨[42]⟩⟩:=λe=>h2 (.inr (.inr (.inl e)));have h6:¬s=⟨⟨[47]⟩⟩:=λe=>h2 (.inr (.inr (.inr (.inl e))));have h7:¬s=⟨⟨[37]⟩⟩:=λe=>h2 (.inr (.inr (.inr (.inr e))));refine Fun.of (cQ (by simp) ?_) rfl rfl
 conv=>whnf
 repeat' (first|refine gC (gD (cJ ?_))|refine ae.nrm ?_)<;>conv=>whnf
theorem Gv:Fun Tryz.prog 158 [.str C4] (.fn (.func 174) [] []):=by
 refine Fun.of (cQ (by simp) ?_) rfl rfl
 conv=>whnf
 repeat' (first|refine gC (gD (cId ?_))|refine ae.nrm ?_)<;>conv=>whnf
theorem Gt:Fun Tryz.prog 158 [.str CY] (.fn (.func 175) [] []):=by
 refine Fun.of (cQ (by simp) ?_) rfl rfl
 conv=>whnf
 repeat' (first|(refine gC ?_;(refine gD ?_;first|refine cId ?_|refine cJd ?_))|refine ae.nrm ?_)<;>conv=>whnf
theorem Gu:Fun Tryz.prog 158 [.str C0] (.fn (.func 176) [] []):=by
 refine Fun.of (cQ (by simp) ?_) rfl rfl
 conv=>whnf
 repeat' (first|(refine gC ?_;(refine gD ?_;first|refine cId ?_|refine cJd ?_))|refine ae.nrm ?_)<;>conv=>whnf
theorem xt(f:AV)(hf:f=.fn (.func 178) [] []\/f=.fn (.func 179) [] []):AM.Sem Tryz.prog 177 [f] [] λr bs'=>r=.fn (.func 184) [] [.ptr 0 0]/\bs'=[.cells [f]]:=by
 rcases hf with rfl|rfl
 .refine dM (by simp) ?_
  conv=>whnf
  repeat' refine ae.nrm ?_<;>conv=>whnf
  all_goals exact⟨rfl,rfl⟩
 .refine dM (by simp) ?_
  conv=>whnf
  repeat' refine ae.nrm ?_<;>conv=>whnf
  all_goals exact⟨rfl,rfl⟩
theorem Cw:AM.Sem Tryz.prog 158 [.str C2] [] λr bs'=>r=.fn (.func 184) [] [.ptr 0 0]/\bs'=[.cells [.fn (.func 178) [] []]]:=by
 refine cQ (by simp) ?_
 conv=>whnf
 repeat' (first|(refine gF ?_;refine aa.to (xt _ (.inl rfl)) ?_)|(refine gC ?_;(refine gD ?_;first|refine cId ?_|refine cJd ?_))|refine ae.nrm ?_)<;>conv=>whnf
 all_goals exact⟨rfl,rfl⟩
theorem Cv:AM.Sem Tryz.prog 158 [.str cMod] [] λr bs'=>r=.fn (.func 184) [] [.ptr 0 0]/\bs'=[.cells [.fn (.func 179) [] []]]:=by
 refine cQ (by simp) ?_
 conv=>whnf
 repeat' (first|(refine gF ?_;refine aa.to (xt _ (.inr rfl)) ?_)|(refine gC ?_;(refine gD ?_;first|refine cId ?_|refine cJd ?_))|refine ae.nrm ?_)<;>conv=>whnf
 all_goals exact⟨rfl,rfl⟩
theorem Oj{a b:Int}(hb:b≠0)(h1:inR a=true)(h2:inR b=true):Fun Tryz.prog 179 [.int .i64 a,.int .i64 b] (.int .i64 (a-a.fdiv b*b)):=by
 have h3:=je.1 h1;have h4:=je.1 h2;have h5:=qN hb h3.1 h3.2;have h6:=pr h5.1 h5.2 h4.1 h4.2;refine Fun.of (y5 (by simp) ?_) rfl rfl
 conv=>whnf
 repeat' (first|refine gF (aa.fn (ud hb h1 h2) ?_)|refine gW (wI ?_)|refine ae.nrm ?_)<;>conv=>whnf
theorem Is{a:Int}{f:AV}(hf:f=.fn (.func 178) [] []\/f=.fn (.func 179) [] []):AM.Sem Tryz.prog 184 [.int .i64 a,.int .i64 0,.ptr 0 0] [.cells [f]] λr bs'=>r=.tup [.int .i64 0,.int .i64 12]/\bs'=[.cells [f]]:=by
 rcases hf with rfl|rfl
 .refine cT (by simp) ?_
  conv=>whnf
  repeat' (first|refine gC (gD (cI ?_))|refine ae.nrm ?_)<;>conv=>whnf
  all_goals exact⟨rfl,rfl⟩
 .refine cT (by simp) ?_
  conv=>whnf
  repeat' (first|refine gC (gD (cI ?_))|refine ae.nrm ?_)<;>conv=>whnf
  all_goals exact⟨rfl,rfl⟩
theorem Ir{a b:Int}(hb:b≠0)(h1:inR a=true)(h2:inR b=true):AM.Sem Tryz.prog 184 [.int .i64 a,.int .i64 b,.ptr 0 0] [.cells [.fn (.func 178) [] []]] λr bs'=>r=.tup [.int .i64 (a.fdiv b),.int .i64 0]/\bs'=[.cells [.fn (.func 178) [] []]]:=by
 refine cT (by simp) ?_
 conv=>whnf
 repeat' (first|refine gF (aa.fn (ud hb h1 h2) ?_)|refine gC (gD (cJ ?_))|refine gH (hB ?_)|refine ae.nrm ?_)<;>conv=>whnf
 all_goals exact⟨rfl,rfl⟩
theorem Iu{a b:Int}(hb:b≠0)(h1:inR a=true)(h2:inR b=true):AM.Sem Tryz.prog 184 [.int .i64 a,.int .i64 b,.ptr 0 0] [.cells [.fn (.func 179) [] []]] λr bs'=>r=.tup [.int .i64 (a-a.fdiv b*b),.int .i64 0]/\bs'=[.cells [.fn (.func 179) [] []]]:=by
 refine cT (by simp) ?_
 conv=>whnf
 repeat' (first|refine gF (aa.fn (Oj hb h1 h2) ?_)|refine gC (gD (cJ ?_))|refine gH (hB ?_)|refine ae.nrm ?_)<;>conv=>whnf
 all_goals exact⟨rfl,rfl⟩
theorem BF{s:ByteArray}{a b x:Int}(h:jc s=true)(h2:(inR a&&inR b)=true)(hv:opv s a b=(x,0)):apply s a b=if inR x=false then (0,5) else (x,0):=by
 unfold apply;rw[h,h2,hv,if_neg (by simp),if_neg (by simp),if_neg (by simp)]
theorem pJ{s:ByteArray}{a b:Int}(h:jc s=true)(h2:(inR a&&inR b)=true)(hv:opv s a b=(0,12)):apply s a b=(0,12):=by
 unfold apply;rw[h,h2,hv,if_neg (by simp),if_neg (by simp),if_pos (by simp)]
def jS(s:ByteArray)(a b:Int):AV:=.tup [.int .i64 (apply s a b).1,.int .i64 (apply s a b).2]
theorem dC{s:ByteArray}{a b x e:Int}(h:apply s a b=(x,e)):jS s a b=.tup [.int .i64 x,.int .i64 e]:=by unfold jS;rw[h]
theorem dg{s:ByteArray}{a b x:Int}(h:jc s=true)(h2:(inR a&&inR b)=true)(hv:opv s a b=(x,0))(hx:inR x=true):jS s a b=.tup [.int .i64 x,.int .i64 0]:=dC (by rw[BF h h2 hv,hx];rfl)
theorem dh{s:ByteArray}{a b x:Int}(h:jc s=true)(h2:(inR a&&inR b)=true)(hv:opv s a b=(x,0))(hx:inR x=false):jS s a b=.tup [.int .i64 0,.int .i64 5]:=dC (by rw[BF h h2 hv,hx];rfl)
theorem HR{a b:Int}(hb:b≠0):opv C2 a b=(a.fdiv b,0):=by
 unfold opv;rw[if_neg (by decide),if_neg (by decide),if_neg (by decide),if_neg hb,if_pos rfl]
theorem HQ{a b:Int}(hb:b≠0):opv cMod a b=(a-a.fdiv b*b,0):=by
 unfold opv;rw[if_neg (by decide),if_neg (by decide),if_neg (by decide),if_neg hb,if_neg (by decide)]
theorem HS(a b:Int):opv C4 a b=(a+b,0):=by unfold opv;rw[if_pos rfl]
theorem HO(a b:Int):opv CY a b=(a-b,0):=by unfold opv;rw[if_neg (by decide),if_pos rfl]
theorem HP(a b:Int):opv C0 a b=(a*b,0):=by unfold opv;rw[if_neg (by decide),if_neg (by decide),if_pos rfl]
theorem D8(a:Int):opv C2 a 0=(0,12):=by
 unfold opv;rw[if_neg (by decide),if_neg (by decide),if_neg (by decide),if_pos rfl]
theorem D7(a:Int):opv cMod a 0=(0,12):=by
 unfold opv;rw[if_neg (by decide),if_neg (by decide),if_neg (by decide),if_pos rfl]
theorem ng{s:ByteArray}(h:jc s=true):s=C4\/s=CY\/s=C0\/s=C2\/s=cMod:=of_decide_eq_true h
theorem Mf{s:ByteArray}{a b:Int}(h:jc s=false):Fun Tryz.prog 140 [.str s,.int .i64 a,.int .i64 b] (jS s a b):=by
 have hv:apply s a b=(0,7):=by unfold apply;rw[if_pos h]
 rw[dC hv];have hof:=NF h;refine Fun.of (aB (by simp) ?_) rfl rfl
 conv=>whnf
 repeat' (first|refine gF (aa.fn (hof) ?_)|refine gC (cY ?_)|refine ae.nrm ?_)<;>conv=>whnf
theorem JT{s:ByteArray}{a b:Int}(h:jc s=true)(h2:(inR a&&inR b)=false):Fun Tryz.prog 140 [.str s,.int .i64 a,.int .i64 b] (jS s a b):=by
 have hv:apply s a b=(0,5):=by unfold apply;rw[if_neg (by rw[h];decide),if_pos h2]
 rw[dC hv];have hin:=pB a b;rw[h2] at hin;rcases ng h with rfl|rfl|rfl|rfl|rfl
 .have hof:=Gv;refine Fun.of (aB (by simp) ?_) rfl rfl
  conv=>whnf
  repeat' (first|(refine gF ?_;first|refine aa.fn (hof) ?_|refine aa.fn (hin) ?_)|(refine gC ?_;first|refine cN ?_|refine .not ?_)|refine ae.nrm ?_)<;>conv=>whnf
 .have hof:=Gt;refine Fun.of (aB (by simp) ?_) rfl rfl
  conv=>whnf
  repeat' (first|(refine gF ?_;first|refine aa.fn (hof) ?_|refine aa.fn (hin) ?_)|(refine gC ?_;first|refine cN ?_|refine .not ?_)|refine ae.nrm ?_)<;>conv=>whnf
 .have hof:=Gu;refine Fun.of (aB (by simp) ?_) rfl rfl
  conv=>whnf
  repeat' (first|(refine gF ?_;first|refine aa.fn (hof) ?_|refine aa.fn (hin) ?_)|(refine gC ?_;first|refine cN ?_|refine .not ?_)|refine ae.nrm ?_)<;>conv=>whnf
 .refine Fun.of (aB (by simp) ?_) rfl rfl
  conv=>whnf
  repeat' (first|(refine gF ?_;first|refine aa.to (Cw) ?_|refine aa.fn (hin) ?_)|(refine gC ?_;first|refine cN ?_|refine .not ?_)|refine ae.nrm ?_)<;>conv=>whnf
 .refine Fun.of (aB (by simp) ?_) rfl rfl
  conv=>whnf
  repeat' (first|(refine gF ?_;first|refine aa.to (Cv) ?_|refine aa.fn (hin) ?_)|(refine gC ?_;first|refine cN ?_|refine .not ?_)|refine ae.nrm ?_)<;>conv=>whnf
theorem JX{a b:Int}(h2:(inR a&&inR b)=true):Fun Tryz.prog 140 [.str C4,.int .i64 a,.int .i64 b] (jS C4 a b):=by
 have hin:=pB a b;rw[h2] at hin;have h3:=(zD _ _).mp h2;have hv:=HS a b;have hi:=tj (s:=C4) h3.1 h3.2;rw[hv] at hi;have hof:=Gv;have hop:=On hi;have hr:=pC (a+b)
 cases hx:inR (a+b) with
 |true=>
  rw[dg rfl h2 hv hx];rw[hx] at hr;refine Fun.of (aB (by simp) ?_) rfl rfl
  conv=>whnf
  repeat' (first|(refine gF ?_;first|refine aa.fn (hof) ?_|refine aa.fn (hin) ?_|refine aa.fn (hop) ?_|refine aa.fn (hr) ?_)|(refine gC ?_;first|refine cY ?_|refine cN ?_|refine .not ?_|refine gD (cI ?_))|refine gH (hB ?_)|refine ae.nrm ?_)<;>conv=>whnf
 |false=>
  rw[dh rfl h2 hv hx];rw[hx] at hr;refine Fun.of (aB (by simp) ?_) rfl rfl
  conv=>whnf
  repeat' (first|(refine gF ?_;first|refine aa.fn (hof) ?_|refine aa.fn (hin) ?_|refine aa.fn (hop) ?_|refine aa.fn (hr) ?_)|(refine gC ?_;first|refine cY ?_|refine cN ?_|refine .not ?_|(refine gD ?_;first|refine cI ?_|refine cJ ?_))|refine gH (hB ?_)|refine ae.nrm ?_)<;>conv=>whnf
theorem JS{a b:Int}(h2:(inR a&&inR b)=true):Fun Tryz.prog 140 [.str CY,.int .i64 a,.int .i64 b] (jS CY a b):=by
 have hin:=pB a b;rw[h2] at hin;have h3:=(zD _ _).mp h2;have hv:=HO a b;have hi:=tj (s:=CY) h3.1 h3.2;rw[hv] at hi;have hof:=Gt;have hop:=Om hi;have hr:=pC (a-b)
 cases hx:inR (a-b) with
 |true=>
  rw[dg rfl h2 hv hx];rw[hx] at hr;refine Fun.of (aB (by simp) ?_) rfl rfl
  conv=>whnf
  repeat' (first|(refine gF ?_;first|refine aa.fn (hof) ?_|refine aa.fn (hin) ?_|refine aa.fn (hop) ?_|refine aa.fn (hr) ?_)|(refine gC ?_;first|refine cY ?_|refine cN ?_|refine .not ?_|refine gD (cI ?_))|refine gH (hB ?_)|refine ae.nrm ?_)<;>conv=>whnf
 |false=>
  rw[dh rfl h2 hv hx];rw[hx] at hr;refine Fun.of (aB (by simp) ?_) rfl rfl
  conv=>whnf
  repeat' (first|(refine gF ?_;first|refine aa.fn (hof) ?_|refine aa.fn (hin) ?_|refine aa.fn (hop) ?_|refine aa.fn (hr) ?_)|(refine gC ?_;first|refine cY ?_|refine cN ?_|refine .not ?_|(refine gD ?_;first|refine cI ?_|refine cJ ?_))|refine gH (hB ?_)|refine ae.nrm ?_)<;>conv=>whnf
theorem JU{a b:Int}(h2:(inR a&&inR b)=true):Fun Tryz.prog 140 [.str C0,.int .i64 a,.int .i64 b] (jS C0 a b):=by
 have hin:=pB a b;rw[h2] at hin;have h3:=(zD _ _).mp h2;have hv:=HP a b;have hi:=tj (s:=C0) h3.1 h3.2;rw[hv] at hi;have hof:=Gu;have hop:=Ol hi;have hr:=pC (a*b)
 cases hx:inR (a*b) with
 |true=>
  rw[dg rfl h2 hv hx];rw[hx] at hr;refine Fun.of (aB (by simp) ?_) rfl rfl
  conv=>whnf
  repeat' (first|(refine gF ?_;first|refine aa.fn (hof) ?_|refine aa.fn (hin) ?_|refine aa.fn (hop) ?_|refine aa.fn (hr) ?_)|(refine gC ?_;first|refine cY ?_|refine cN ?_|refine .not ?_|refine gD (cI ?_))|refine gH (hB ?_)|refine ae.nrm ?_)<;>conv=>whnf
 |false=>
  rw[dh rfl h2 hv hx];rw[hx] at hr;refine Fun.of (aB (by simp) ?_) rfl rfl
  conv=>whnf
  repeat' (first|(refine gF ?_;first|refine aa.fn (hof) ?_|refine aa.fn (hin) ?_|refine aa.fn (hop) ?_|refine aa.fn (hr) ?_)|(refine gC ?_;first|refine cY ?_|refine cN ?_|refine .not ?_|(refine gD ?_;first|refine cI ?_|refine cJ ?_))|refine gH (hB ?_)|refine ae.nrm ?_)<;>conv=>whnf
theorem JW{a b:Int}(h2:(inR a&&inR b)=true):Fun Tryz.prog 140 [.str C2,.int .i64 a,.int .i64 b] (jS C2 a b):=by
 have hin:=pB a b;rw[h2] at hin;have h3:=(zD _ _).mp h2
 by_cases hb:b=0
 .subst hb;rw[dC (pJ rfl h2 (D8 a))];refine Fun.of (aB (by simp) ?_) rfl rfl
  conv=>whnf
  repeat' (first|(refine gF ?_;first|refine aa.to (Cw) ?_|refine aa.fn (hin) ?_|refine aa.to (Is (.inl rfl)) ?_)|(refine gC ?_;first|refine cY ?_|refine cN ?_|refine .not ?_|refine gD (cJ ?_))|refine gH (hB ?_))<;>conv=>whnf
  refine ae.lay [] oko ?_
  conv=>whnf
  repeat' refine ae.nrm ?_<;>conv=>whnf
 .have hv:=HR (a:=a) hb;have hr:=pC (a.fdiv b)
  cases hx:inR (a.fdiv b) with
  |true=>
   rw[dg rfl h2 hv hx];rw[hx] at hr;refine Fun.of (aB (by simp) ?_) rfl rfl
   conv=>whnf
   repeat' (first|(refine gF ?_;first|refine aa.to (Cw) ?_|refine aa.fn (hin) ?_|refine aa.to (Ir hb h3.1 h3.2) ?_|refine aa.fn (hr) ?_)|(refine gC ?_;first|refine cY ?_|refine cN ?_|refine .not ?_|refine gD (cI ?_))|refine gH (hB ?_))<;>conv=>whnf
   refine ae.lay [] oko ?_
   conv=>whnf
   repeat' refine ae.nrm ?_<;>conv=>whnf
  |false=>
   rw[dh rfl h2 hv hx];rw[hx] at hr;refine Fun.of (aB (by simp) ?_) rfl rfl
   conv=>whnf
   repeat' (first|(refine gF ?_;first|refine aa.to (Cw) ?_|refine aa.fn (hin) ?_|refine aa.to (Ir hb h3.1 h3.2) ?_|refine aa.fn (hr) ?_)|(refine gC ?_;first|refine cY ?_|refine cN ?_|refine .not ?_|(refine gD ?_;first|refine cI ?_|refine cJ ?_))|refine gH (hB ?_))<;>conv=>whnf
   refine ae.lay [] oko ?_
   conv=>whnf
   repeat' refine ae.nrm ?_<;>conv=>whnf
theorem JV{a b:Int}(h2:(inR a&&inR b)=true):Fun Tryz.prog 140 [.str cMod,.int .i64 a,.int .i64 b] (jS cMod a b):=by
 have hin:=pB a b;rw[h2] at hin;have h3:=(zD _ _).mp h2
 by_cases hb:b=0
 .subst hb;rw[dC (pJ rfl h2 (D7 a))];refine Fun.of (aB (by simp) ?_) rfl rfl
  conv=>whnf
  repeat' (first|(refine gF ?_;first|refine aa.to (Cv) ?_|refine aa.fn (hin) ?_|refine aa.to (Is (.inr rfl)) ?_)|(refine gC ?_;first|refine cY ?_|refine cN ?_|refine .not ?_|refine gD (cJ ?_))|refine gH (hB ?_))<;>conv=>whnf
  refine ae.lay [] oko ?_
  conv=>whnf
  repeat' refine ae.nrm ?_<;>conv=>whnf
 .have hv:=HQ (a:=a) hb;have hr:=pC (a-a.fdiv b*b)
  cases hx:inR (a-a.fdiv b*b) with
  |true=>
   rw[dg rfl h2 hv hx];rw[hx] at hr;refine Fun.of (aB (by simp) ?_) rfl rfl
   conv=>whnf
   repeat' (first|(refine gF ?_;first|refine aa.to (Cv) ?_|refine aa.fn (hin) ?_|refine aa.to (Iu hb h3.1 h3.2) ?_|refine aa.fn (hr) ?_)|(refine gC ?_;first|refine cY ?_|refine cN ?_|refine .not ?_|refine gD (cI ?_))|refine gH (hB ?_))<;>conv=>whnf
   refine ae.lay [] oko ?_
   conv=>whnf
   repeat' refine ae.nrm ?_<;>conv=>whnf
  |false=>
   rw[dh rfl h2 hv hx];rw[hx] at hr;refine Fun.of (aB (by simp) ?_) rfl rfl
   conv=>whnf
   repeat' (first|(refine gF ?_;first|refine aa.to (Cv) ?_|refine aa.fn (hin) ?_|refine aa.to (Iu hb h3.1 h3.2) ?_|refine aa.fn (hr) ?_)|(refine gC ?_;first|refine cY ?_|refine cN ?_|refine .not ?_|(refine gD ?_;first|refine cI ?_|refine cJ ?_))|refine gH (hB ?_))<;>conv=>whnf
   refine ae.lay [] oko ?_
   conv=>whnf
   repeat' refine ae.nrm ?_<;>conv=>whnf
theorem Me(s:ByteArray)(a b:Int):Fun Tryz.prog 140 [.str s,.int .i64 a,.int .i64 b] (jS s a b):=by
 cases h:jc s with
 |false=>exact Mf h
 |true=>
  cases h2:(inR a&&inR b) with
  |false=>exact JT h h2
  |true=>
   rcases ng h with rfl|rfl|rfl|rfl|rfl
   .exact JX h2
   .exact JS h2
   .exact JU h2
   .exact JW h2
   .exact JV h2
theorem ux(k n:Int)(s:ByteArray)(l:List AV)(f:AV)(hf:f=.fn (.func 178) [] []\/f=.fn (.func 179) [] []):AM.Sem Tryz.prog 177 [f] [.cells [.int .i64 k,.int .i64 n,.str s,.sl .no l]] λr bs'=>r=.fn (.func 184) [] [.ptr 1 0]/\bs'=[.cells [.int .i64 k,.int .i64 n,.str s,.sl .no l],.cells [f]]:=by
 rcases hf with rfl|rfl
 .refine dM (by simp) ?_
  conv=>whnf
  repeat' refine ae.nrm ?_<;>conv=>whnf
  all_goals exact⟨rfl,rfl⟩
 .refine dM (by simp) ?_
  conv=>whnf
  repeat' refine ae.nrm ?_<;>conv=>whnf
  all_goals exact⟨rfl,rfl⟩
theorem ME(k n:Int)(s:ByteArray)(l:List AV):AM.Sem Tryz.prog 158 [.str C2] [.cells [.int .i64 k,.int .i64 n,.str s,.sl .no l]] λr bs'=>r=.fn (.func 184) [] [.ptr 1 0]/\bs'=[.cells [.int .i64 k,.int .i64 n,.str s,.sl .no l],.cells [.fn (.func 178) [] []]]:=by
 refine cQ (by simp) ?_
 conv=>whnf
 repeat' (first|(refine gF ?_;refine aa.to (ux k n s l _ (.inl rfl)) ?_)|(refine gC ?_;(refine gD ?_;first|refine cId ?_|refine cJd ?_))|refine ae.nrm ?_)<;>conv=>whnf
 all_goals exact⟨rfl,rfl⟩
theorem MD(k n:Int)(s:ByteArray)(l:List AV):AM.Sem Tryz.prog 158 [.str cMod] [.cells [.int .i64 k,.int .i64 n,.str s,.sl .no l]] λr bs'=>r=.fn (.func 184) [] [.ptr 1 0]/\bs'=[.cells [.int .i64 k,.int .i64 n,.str s,.sl .no l],.cells [.fn (.func 179) [] []]]:=by
 refine cQ (by simp) ?_
 conv=>whnf
 repeat' (first|(refine gF ?_;refine aa.to (ux k n s l _ (.inr rfl)) ?_)|(refine gC ?_;(refine gD ?_;first|refine cId ?_|refine cJd ?_))|refine ae.nrm ?_)<;>conv=>whnf
 all_goals exact⟨rfl,rfl⟩
def wv(t:Tm):Bool:=decide (t.kind=2)&&(decide (t.args.length=2)&&jc t.name)
theorem D9(t:Tm):Fun Tryz.prog 139 [t.avw] (.bool (wv t)):=by
 unfold wv
 by_cases h1:t.kind=2
 .rw [decide_eq_true h1,za]
  by_cases h2:t.args.length=2
  .rw [decide_eq_true h2,za]
   cases h:jc t.name with
   |false=>
    have hof:=NF h;refine Fun.of (bj (by simp) ?_) rfl rfl
    conv=>whnf
    repeat' (first|refine gF (aa.fn (hof) ?_)|refine gC (gD (cI ?_))|refine gL (.map ?_)|refine ae.nrm ?_)<;>conv=>whnf
   |true=>
    rcases ng h with e|e|e|e|e
    .have hof:=Gv;rw[<-e] at hof;refine Fun.of (bj (by simp) ?_) rfl rfl
     conv=>whnf
     repeat' (first|refine gF (aa.fn (hof) ?_)|refine gC (gD (cI ?_))|refine gL (.map ?_)|refine ae.nrm ?_)<;>conv=>whnf
    .have hof:=Gt;rw[<-e] at hof;refine Fun.of (bj (by simp) ?_) rfl rfl
     conv=>whnf
     repeat' (first|refine gF (aa.fn (hof) ?_)|refine gC (gD (cI ?_))|refine gL (.map ?_)|refine ae.nrm ?_)<;>conv=>whnf
    .have hof:=Gu;rw[<-e] at hof;refine Fun.of (bj (by simp) ?_) rfl rfl
     conv=>whnf
     repeat' (first|refine gF (aa.fn (hof) ?_)|refine gC (gD (cI ?_))|refine gL (.map ?_)|refine ae.nrm ?_)<;>conv=>whnf
    .have hof:=ME t.kind t.num t.name (t.args.map Tm.av);rw[<-e] at hof;refine Fun.of (bj (by simp) ?_) rfl rfl
     conv=>whnf
     repeat' (first|refine gF (aa.to (hof) ?_)|refine gC (gD (cI ?_))|refine gL (.map ?_))<;>conv=>whnf
     refine ae.lay [] oko ?_
     conv=>whnf
     repeat' refine ae.nrm ?_<;>conv=>whnf
    .have hof:=MD t.kind t.num t.name (t.args.map Tm.av);rw[<-e] at hof;refine Fun.of (bj (by simp) ?_) rfl rfl
     conv=>whnf
     repeat' (first|refine gF (aa.to (hof) ?_)|refine gC (gD (cI ?_))|refine gL (.map ?_))<;>conv=>whnf
     refine ae.lay [] oko ?_
     conv=>whnf
     repeat' refine ae.nrm ?_<;>conv=>whnf
  .rw [decide_eq_false h2,zw];have h3:¬((t.args.length:Int)=2):=by omega
   refine Fun.of (bj (by simp) ?_) rfl rfl
   conv=>whnf
   repeat' (first|(refine gC ?_;(refine gD ?_;first|refine cI ?_|refine cJ ?_))|refine gL (.map ?_)|refine ae.nrm ?_)<;>conv=>whnf
 .rw [decide_eq_false h1,zw];refine Fun.of (bj (by simp) ?_) rfl rfl
  conv=>whnf
  repeat' (first|(refine gC ?_;first|refine cN ?_|refine gD (cJ ?_))|refine ae.nrm ?_)<;>conv=>whnf
end Go.CK
namespace Go.CK
open Go.AM Go.Proofs
def Ae(t:Tm):AV:=.tup [.int .i64 (aL t).1,.int .i64 (aL t).2]
theorem ct{t:Tm}{x e:Int}(h:aL t=(x,e)):Ae t=.tup [.int .i64 x,.int .i64 e]:=by unfold Ae;rw[h]
theorem Bo{t:Tm}(h:t.kind=1):aL t=(0,17):=by
 obtain⟨k,n,s,l⟩:=t;have h:k=1:=h;rw[xp (by omega),if_pos h]
theorem Bq{t:Tm}(h:t.kind=0):aL t=if inR t.num=true then (t.num,0) else (0,5):=by
 obtain⟨k,n,s,l⟩:=t;have h:k=0:=h;rw[xp (by omega),if_neg (by omega),if_pos h];rfl
theorem sH{t:Tm}(h0:¬t.kind=0)(h1:¬t.kind=1)(ho:wv t=false):aL t=(0,11):=by
 obtain⟨k,n,s,l⟩:=t;have h0:¬k=0:=h0;have h1:¬k=1:=h1;have ho:(decide (k=2)&&(decide (l.length=2)&&jc s))=false:=ho
 by_cases hk:k=2
 .subst hk
  by_cases hl:l.length=2
  .obtain ⟨a,b,rfl⟩:=qe hl;rw[Bp];rw[decide_eq_true rfl,decide_eq_true hl,za,za] at ho;rw[if_pos ho]
  .rw [JC hl]
 .rw [xp hk,if_neg h1,if_neg h0]
theorem E0{t a b:Tm}(h0:¬t.kind=0)(h1:¬t.kind=1)(ho:wv t=true)(hl:t.args=[a,b]):aL t=if (aL a).2≠0 then (0,(aL a).2) else if (aL b).2≠0 then (0,(aL b).2) else apply t.name (aL a).1 (aL b).1:=by
 obtain⟨k,n,s,l⟩:=t;have hl:l=[a,b]:=hl;subst hl;have ho:(decide (k=2)&&(decide ([a,b].length=2)&&jc s))=true:=ho;rw[zD,zD] at ho;have hk:=of_decide_eq_true ho.1;subst hk;rw[Bp,if_neg (by rw[ho.2.2];decide)];rfl
theorem Ee{t:Tm}(h:wv t=true):∃a b,t.args=[a,b]:=by
 unfold wv at h;rw[zD,zD] at h;exact qe (of_decide_eq_true h.2.1)
def OI(t:Tm)(q x y:Int):St:=⟨[(1,.ptr 0 0),(4,.ptr 1 0),(32,.int .i64 q)],[.cells [.int .i64 t.kind,.int .i64 t.num,.str t.name,.sl .no (t.args.map Tm.av)],.cells [.int .i64 x,.int .i64 y]],0⟩
set_option maxHeartbeats 1000000 in
theorem IN(t:Tm):Fun Tryz.prog 115 [t.avw] (Ae t):=by
 induction t using Tm.bD with
 |h k n s l ih=>
 generalize ha:Tm.mk k n s l=t;have ih:∀x∈t.args,Fun Tryz.prog 115 [x.avw] (Ae x):=by subst ha;exact ih
 clear ha
 by_cases h1:t.kind=1
 .rw [ct (Bo h1)];refine Fun.of (eg (by simp) ?_) rfl rfl
  conv=>whnf
  repeat' (first|refine gC (gD (cI ?_))|refine ae.nrm ?_)<;>conv=>whnf
 by_cases h0:t.kind=0
 .have hr:=pC t.num;have he:=Bq h0
  cases hi:inR t.num with
  |true=>
   rw[hi] at hr he;rw[ct he];refine Fun.of (eg (by simp) ?_) rfl rfl
   conv=>whnf
   repeat' (first|refine gF (aa.fn (hr) ?_)|(refine gC ?_;first|refine cY ?_|(refine gD ?_;first|refine cI ?_|refine cJ ?_))|refine ae.nrm ?_)<;>conv=>whnf
  |false=>
   rw[hi] at hr he;rw[ct he];refine Fun.of (eg (by simp) ?_) rfl rfl
   conv=>whnf
   repeat' (first|refine gF (aa.fn (hr) ?_)|(refine gC ?_;first|refine cN ?_|(refine gD ?_;first|refine cI ?_|refine cJ ?_))|refine ae.nrm ?_)<;>conv=>whnf
 have hop:=D9 t
 cases ho:wv t with
 |false=>
  rw[ho] at hop;rw[ct (sH h0 h1 ho)];refine Fun.of (eg (by simp) ?_) rfl rfl
  conv=>whnf
  repeat' (first|refine gF (aa.fn (hop) ?_)|(refine gC ?_;first|refine cN ?_|refine .not ?_|refine gD (cJ ?_))|refine ae.nrm ?_)<;>conv=>whnf
 |true=>
  rw[ho] at hop;obtain⟨a,b,hl⟩:=Ee ho;have he:=E0 h0 h1 ho hl;have ea:=ih a (by rw[hl];simp)
  have eb:=ih b (by rw[hl];simp)
  have hap:=Me t.name (aL a).1 (aL b).1;have g0:t.args[0]? =some a:=by rw[hl];rfl
  have g1:t.args[1]? =some b:=by rw[hl];rfl
  have hln:t.args.length=2:=by rw[hl];rfl
  unfold Ae at ea eb;unfold jS at hap;refine Fun.of (eg (by simp) ?_) rfl rfl
  conv=>whnf
  repeat' (first|refine gF (aa.fn (hop) ?_)|(refine gC ?_;first|refine cY ?_|refine cN ?_|refine .not ?_|refine gD (cJ ?_)))<;>conv=>whnf
  refine aD.by (fb:=true) (λ_ (q:Nat)=>match q with|0=>OI t 0 0 0|1=>OI t 1 (aL a).1 0|_=>OI t 2 (aL a).1 (aL b).1) (λq=>q<=2/\(1<=q->(aL a).2=0)/\(2<=q->(aL b).2=0)) (λq=>2-q) 0 ⟨by omega,by omega,by omega⟩ ?_ ?_
  .exact aH
  .rintro q ⟨q1,q2,q3⟩
   match q,q1,q2,q3 with
   |0,_,_,_=>
    by_cases hz:(aL a).2=0
    .conv=>whnf
     repeat' (first|refine gF (aa.fn (ea) ?_)|(refine gC ?_;first|refine .not ?_|refine gD (cI ?_))|refine gW (wI ?_)|refine gN (nS ?_)|refine gI (gT (iA ?_)))<;>conv=>whnf
     refine⟨1,⟨⟨by omega,λ_=>hz,by omega⟩,by omega⟩,?_⟩
     exact aH
    .rw [if_pos hz] at he;rw[ct he]
     conv=>whnf
     repeat' (first|refine gF (aa.fn (ea) ?_)|(refine gC ?_;first|refine .not ?_|(refine gD ?_;first|refine cI ?_|refine cJ ?_))|refine gI (gT (iA ?_))|refine ae.nrm ?_)<;>conv=>whnf
   |1,_,h2,_=>
    rw[if_neg (λe=>e (h2 (by omega)))] at he
    by_cases hz:(aL b).2=0
    .conv=>whnf
     repeat' (first|refine gF (aa.fn (eb) ?_)|(refine gC ?_;first|refine .not ?_|refine gD (cI ?_))|refine gW (wI ?_)|refine gN (nS ?_)|refine gI (gT (iA ?_)))<;>conv=>whnf
     refine⟨2,⟨⟨by omega,λ_=>h2 (by omega),λ_=>hz⟩,by omega⟩,?_⟩
     exact aH
    .rw [if_pos hz] at he;rw[ct he]
     conv=>whnf
     repeat' (first|refine gF (aa.fn (eb) ?_)|(refine gC ?_;first|refine .not ?_|(refine gD ?_;first|refine cI ?_|refine cJ ?_))|refine gI (gT (iA ?_))|refine ae.nrm ?_)<;>conv=>whnf
   |2,_,h2,h3=>
    rw[if_neg (λe=>e (h2 (by omega))),if_neg (λe=>e (h3 (by omega)))] at he
    unfold Ae;rw[he]
    conv=>whnf
    repeat' (first|refine gF (aa.fn (hap) ?_)|refine gC (gD (cJ ?_))|refine gN (nS ?_)|refine ae.nrm ?_)<;>conv=>whnf
set_option maxHeartbeats 1000000 in
theorem JY(s:ByteArray)(a b:Int):Fun Tryz.prog 118 [.str s,.int .i64 a,.int .i64 b] (jS s a b):=by
 have hop:=rY s;have ia:=oJ a;have ib:=oJ b
 cases h:jc s with
 |false=>
  have hv:apply s a b=(0,7):=by unfold apply;rw[if_pos h]
  rw[dC hv];rw[h] at hop;refine Fun.of (ak (by simp) ?_) rfl rfl
  conv=>whnf
  repeat' (first|refine gF (aa.fn (hop) ?_)|(refine gC ?_;first|refine cN ?_|refine .not ?_)|refine ae.nrm ?_)<;>conv=>whnf
 |true=>
  rw[h] at hop
  cases ha:inR a with
  |false=>
   have hv:apply s a b=(0,5):=by unfold apply;rw[if_neg (by rw[h];decide),if_pos (by rw[ha];rfl)]
   rw[dC hv];rw[ha] at ia;refine Fun.of (ak (by simp) ?_) rfl rfl
   conv=>whnf
   repeat' (first|(refine gF ?_;first|refine aa.fn (hop) ?_|refine aa.fn (ia) ?_)|(refine gC ?_;first|refine cY ?_|refine cN ?_|refine .not ?_)|refine ae.nrm ?_)<;>conv=>whnf
  |true=>
   rw[ha] at ia
   cases hb:inR b with
   |false=>
    have hv:apply s a b=(0,5):=by unfold apply;rw[if_neg (by rw[h];decide),if_pos (by rw[ha,hb];rfl)]
    rw[dC hv];rw[hb] at ib;refine Fun.of (ak (by simp) ?_) rfl rfl
    conv=>whnf
    repeat' (first|(refine gF ?_;first|refine aa.fn (hop) ?_|refine aa.fn (ia) ?_|refine aa.fn (ib) ?_)|(refine gC ?_;first|refine cY ?_|refine cN ?_|refine .not ?_)|refine ae.nrm ?_)<;>conv=>whnf
   |true=>
    rw[hb] at ib;have h2:(inR a&&inR b)=true:=by rw[ha,hb];rfl
    rcases ng h with rfl|rfl|rfl|rfl|rfl
    .have hv:=HS a b;have hi:=tj (s:=C4) ha hb;rw[hv] at hi;have hi:bM (a+b):=hi;unfold bM at hi;have hr:=oJ (a+b)
     cases hx:inR (a+b) with
     |true=>
      rw[dg rfl h2 hv hx];rw[hx] at hr;refine Fun.of (ak (by simp) ?_) rfl rfl
      conv=>whnf
      repeat' (first|(refine gF ?_;first|refine aa.fn (hop) ?_|refine aa.fn (ia) ?_|refine aa.fn (ib) ?_|refine aa.fn (hr) ?_)|(refine gC ?_;first|refine cY ?_|refine .not ?_|refine gD (cId ?_))|refine gW (wI ?_)|refine ae.nrm ?_)<;>conv=>whnf
     |false=>
      rw[dh rfl h2 hv hx];rw[hx] at hr;refine Fun.of (ak (by simp) ?_) rfl rfl
      conv=>whnf
      repeat' (first|(refine gF ?_;first|refine aa.fn (hop) ?_|refine aa.fn (ia) ?_|refine aa.fn (ib) ?_|refine aa.fn (hr) ?_)|(refine gC ?_;first|refine cY ?_|refine cN ?_|refine .not ?_|refine gD (cId ?_))|refine gW (wI ?_)|refine ae.nrm ?_)<;>conv=>whnf
    .have hv:=HO a b;have hi:=tj (s:=CY) ha hb;rw[hv] at hi;have hi:bM (a-b):=hi;unfold bM at hi;have hr:=oJ (a-b)
     cases hx:inR (a-b) with
     |true=>
      rw[dg rfl h2 hv hx];rw[hx] at hr;refine Fun.of (ak (by simp) ?_) rfl rfl
      conv=>whnf
      repeat' (first|(refine gF ?_;first|refine aa.fn (hop) ?_|refine aa.fn (ia) ?_|refine aa.fn (ib) ?_|refine aa.fn (hr) ?_)|(refine gC ?_;first|refine cY ?_|refine .not ?_|(refine gD ?_;first|refine cId ?_|refine cJd ?_))|refine gW (wI ?_)|refine ae.nrm ?_)<;>conv=>whnf
     |false=>
      rw[dh rfl h2 hv hx];rw[hx] at hr;refine Fun.of (ak (by simp) ?_) rfl rfl
      conv=>whnf
      repeat' (first|(refine gF ?_;first|refine aa.fn (hop) ?_|refine aa.fn (ia) ?_|refine aa.fn (ib) ?_|refine aa.fn (hr) ?_)|(refine gC ?_;first|refine cY ?_|refine cN ?_|refine .not ?_|(refine gD ?_;first|refine cId ?_|refine cJd ?_))|refine gW (wI ?_)|refine ae.nrm ?_)<;>conv=>whnf
    .have hv:=HP a b;have hi:=tj (s:=C0) ha hb;rw[hv] at hi;have hi:bM (a*b):=hi;unfold bM at hi;have hr:=oJ (a*b)
     cases hx:inR (a*b) with
     |true=>
      rw[dg rfl h2 hv hx];rw[hx] at hr;refine Fun.of (ak (by simp) ?_) rfl rfl
      conv=>whnf
      repeat' (first|(refine gF ?_;first|refine aa.fn (hop) ?_|refine aa.fn (ia) ?_|refine aa.fn (ib) ?_|refine aa.fn (hr) ?_)|(refine gC ?_;first|refine cY ?_|refine .not ?_|(refine gD ?_;first|refine cId ?_|refine cJd ?_))|refine gW (wI ?_)|refine ae.nrm ?_)<;>conv=>whnf
     |false=>
      rw[dh rfl h2 hv hx];rw[hx] at hr;refine Fun.of (ak (by simp) ?_) rfl rfl
      conv=>whnf
      repeat' (first|(refine gF ?_;first|refine aa.fn (hop) ?_|refine aa.fn (ia) ?_|refine aa.fn (ib) ?_|refine aa.fn (hr) ?_)|(refine gC ?_;first|refine cY ?_|refine cN ?_|refine .not ?_|(refine gD ?_;first|refine cId ?_|refine cJd ?_))|refine gW (wI ?_)|refine ae.nrm ?_)<;>conv=>whnf
    .by_cases hb0:b=0
     .subst hb0;rw[dC (pJ rfl h2 (D8 a))];refine Fun.of (ak (by simp) ?_) rfl rfl
      conv=>whnf
      repeat' (first|(refine gF ?_;first|refine aa.fn (hop) ?_|refine aa.fn (ia) ?_|refine aa.fn (ib) ?_)|(refine gC ?_;first|refine cY ?_|refine .not ?_|(refine gD ?_;first|refine cI ?_|refine cJd ?_))|refine ae.nrm ?_)<;>conv=>whnf
     .have hv:=HR (a:=a) hb0;have hfl:=Bi hb0 ha hb;have hr:=oJ (a.fdiv b)
      cases hx:inR (a.fdiv b) with
      |true=>
       rw[dg rfl h2 hv hx];rw[hx] at hr;refine Fun.of (ak (by simp) ?_) rfl rfl
       conv=>whnf
       repeat' (first|(refine gF ?_;first|refine aa.fn (hop) ?_|refine aa.fn (ia) ?_|refine aa.fn (ib) ?_|refine aa.fn (hfl) ?_|refine aa.fn (hr) ?_)|(refine gC ?_;first|refine cY ?_|refine .not ?_|(refine gD ?_;first|refine cJ ?_|refine cJd ?_))|refine ae.nrm ?_)<;>conv=>whnf
      |false=>
       rw[dh rfl h2 hv hx];rw[hx] at hr;refine Fun.of (ak (by simp) ?_) rfl rfl
       conv=>whnf
       repeat' (first|(refine gF ?_;first|refine aa.fn (hop) ?_|refine aa.fn (ia) ?_|refine aa.fn (ib) ?_|refine aa.fn (hfl) ?_|refine aa.fn (hr) ?_)|(refine gC ?_;first|refine cY ?_|refine cN ?_|refine .not ?_|(refine gD ?_;first|refine cJ ?_|refine cJd ?_))|refine ae.nrm ?_)<;>conv=>whnf
    .by_cases hb0:b=0
     .subst hb0;rw[dC (pJ rfl h2 (D7 a))];refine Fun.of (ak (by simp) ?_) rfl rfl
      conv=>whnf
      repeat' (first|(refine gF ?_;first|refine aa.fn (hop) ?_|refine aa.fn (ia) ?_|refine aa.fn (ib) ?_)|(refine gC ?_;first|refine cY ?_|refine .not ?_|(refine gD ?_;first|refine cI ?_|refine cJd ?_))|refine ae.nrm ?_)<;>conv=>whnf
     .have hv:=HQ (a:=a) hb0;have hfl:=Bi hb0 ha hb;have g1:=je.1 ha;have g2:=je.1 hb;have h5:=qN hb0 g1.1 g1.2;have h6:=pr h5.1 h5.2 g2.1 g2.2;have hr:=oJ (a-a.fdiv b*b)
      cases hx:inR (a-a.fdiv b*b) with
      |true=>
       rw[dg rfl h2 hv hx];rw[hx] at hr;refine Fun.of (ak (by simp) ?_) rfl rfl
       conv=>whnf
       repeat' (first|(refine gF ?_;first|refine aa.fn (hop) ?_|refine aa.fn (ia) ?_|refine aa.fn (ib) ?_|refine aa.fn (hfl) ?_|refine aa.fn (hr) ?_)|(refine gC ?_;first|refine cY ?_|refine .not ?_|(refine gD ?_;first|refine cJ ?_|refine cId ?_|refine cJd ?_))|refine gW (wI ?_)|refine ae.nrm ?_)<;>conv=>whnf
      |false=>
       rw[dh rfl h2 hv hx];rw[hx] at hr;refine Fun.of (ak (by simp) ?_) rfl rfl
       conv=>whnf
       repeat' (first|(refine gF ?_;first|refine aa.fn (hop) ?_|refine aa.fn (ia) ?_|refine aa.fn (ib) ?_|refine aa.fn (hfl) ?_|refine aa.fn (hr) ?_)|(refine gC ?_;first|refine cY ?_|refine cN ?_|refine .not ?_|(refine gD ?_;first|refine cJ ?_|refine cId ?_|refine cJd ?_))|refine gW (wI ?_)|refine ae.nrm ?_)<;>conv=>whnf
theorem HU{t:Tm}(h1:t.kind=2)(h2:t.args.length=2):wv t=jc t.name:=by unfold wv;rw[decide_eq_true h1,decide_eq_true h2,za,za]
theorem HV{t:Tm}(h:¬(t.kind=2/\t.args.length=2)):wv t=false:=by
 unfold wv
 by_cases h1:t.kind=2
 .rw [decide_eq_false (λe=>h ⟨h1,e⟩),zw,Bool.and_false]
 .rw [decide_eq_false h1,zw]
set_option maxHeartbeats 1000000 in
theorem FW(t:Tm):Fun Tryz.prog 93 [t.avw] (Ae t):=by
 induction t using Tm.bD with
 |h k n s l ih=>
 generalize ha:Tm.mk k n s l=t;have ih:∀x∈t.args,Fun Tryz.prog 93 [x.avw] (Ae x):=by subst ha;exact ih
 clear ha
 by_cases h1:t.kind=1
 .rw [ct (Bo h1)];refine Fun.of (az (by simp) ?_) rfl rfl
  conv=>whnf
  repeat' (first|(refine gC ?_;(refine gD ?_;first|refine cI ?_|refine cJ ?_))|refine ae.nrm ?_)<;>conv=>whnf
 by_cases h0:t.kind=0
 .have hr:=oJ t.num;have he:=Bq h0
  cases hi:inR t.num with
  |true=>
   rw[hi] at hr he;rw[ct he];refine Fun.of (az (by simp) ?_) rfl rfl
   conv=>whnf
   repeat' (first|refine gF (aa.fn (hr) ?_)|(refine gC ?_;first|refine cY ?_|refine .not ?_|refine gD (cI ?_))|refine ae.nrm ?_)<;>conv=>whnf
  |false=>
   rw[hi] at hr he;rw[ct he];refine Fun.of (az (by simp) ?_) rfl rfl
   conv=>whnf
   repeat' (first|refine gF (aa.fn (hr) ?_)|(refine gC ?_;first|refine cN ?_|refine .not ?_|refine gD (cI ?_))|refine ae.nrm ?_)<;>conv=>whnf
 have hop:=rY t.name
 by_cases h2:t.kind=2
 rotate_left
 .rw [ct (sH h0 h1 (HV λe=>h2 e.1))];refine Fun.of (az (by simp) ?_) rfl rfl
  conv=>whnf
  repeat' (first|(refine gC ?_;first|refine cY ?_|refine .not ?_|refine gD (cJ ?_))|refine ae.nrm ?_)<;>conv=>whnf
 by_cases hl2:t.args.length=2
 rotate_left
 .rw [ct (sH h0 h1 (HV λe=>hl2 e.2))];have hl3:¬((t.args.length:Int)=2):=by omega
  cases hq:jc t.name with
  |false=>
   rw[hq] at hop;refine Fun.of (az (by simp) ?_) rfl rfl
   conv=>whnf
   repeat' (first|refine gF (aa.fn (hop) ?_)|(refine gC ?_;first|refine cY ?_|refine cN ?_|refine .not ?_|(refine gD ?_;first|refine cI ?_|refine cJ ?_))|refine ae.nrm ?_)<;>conv=>whnf
  |true=>
   rw[hq] at hop;refine Fun.of (az (by simp) ?_) rfl rfl
   conv=>whnf
   repeat' (first|refine gF (aa.fn (hop) ?_)|(refine gC ?_;first|refine cY ?_|refine .not ?_|(refine gD ?_;first|refine cI ?_|refine cJ ?_))|refine gL (.map ?_)|refine ae.nrm ?_)<;>conv=>whnf
 cases ho:jc t.name with
 |false=>
  rw[ho] at hop;rw[ct (sH h0 h1 ((HU h2 hl2).trans ho))];refine Fun.of (az (by simp) ?_) rfl rfl
  conv=>whnf
  repeat' (first|refine gF (aa.fn (hop) ?_)|(refine gC ?_;first|refine cY ?_|refine cN ?_|refine .not ?_|(refine gD ?_;first|refine cI ?_|refine cJ ?_))|refine ae.nrm ?_)<;>conv=>whnf
 |true=>
  rw[ho] at hop;have ho2:=(HU h2 hl2).trans ho;obtain⟨a,b,hl⟩:=Ee ho2;have he:=E0 h0 h1 ho2 hl;have ea:=ih a (by rw[hl];simp)
  have eb:=ih b (by rw[hl];simp)
  have hap:=JY t.name (aL a).1 (aL b).1;have g0:t.args[0]? =some a:=by rw[hl];rfl
  have g1:t.args[1]? =some b:=by rw[hl];rfl
  unfold Ae at ea eb;unfold jS at hap
  by_cases hz:(aL a).2=0
  .rw [if_neg (λe=>e hz)] at he
   by_cases hy:(aL b).2=0
   .rw [if_neg (λe=>e hy)] at he;unfold Ae;rw[he];refine Fun.of (az (by simp) ?_) rfl rfl
    conv=>whnf
    repeat' (first|(refine gF ?_;first|refine aa.fn (hop) ?_|refine aa.fn (ea) ?_|refine aa.fn (eb) ?_|refine aa.fn (hap) ?_)|(refine gC ?_;first|refine cY ?_|refine .not ?_|(refine gD ?_;first|refine cI ?_|refine cJ ?_))|refine gL (.map ?_)|refine gI (gT (iA ?_))|refine ae.nrm ?_)<;>conv=>whnf
   .rw [if_pos hy] at he;rw[ct he];refine Fun.of (az (by simp) ?_) rfl rfl
    conv=>whnf
    repeat' (first|(refine gF ?_;first|refine aa.fn (hop) ?_|refine aa.fn (ea) ?_|refine aa.fn (eb) ?_)|(refine gC ?_;first|refine cY ?_|refine .not ?_|(refine gD ?_;first|refine cI ?_|refine cJ ?_))|refine gL (.map ?_)|refine gI (gT (iA ?_))|refine ae.nrm ?_)<;>conv=>whnf
  .rw [if_pos hz] at he;rw[ct he];refine Fun.of (az (by simp) ?_) rfl rfl
   conv=>whnf
   repeat' (first|(refine gF ?_;first|refine aa.fn (hop) ?_|refine aa.fn (ea) ?_)|(refine gC ?_;first|refine cY ?_|refine .not ?_|(refine gD ?_;first|refine cI ?_|refine cJ ?_))|refine gL (.map ?_)|refine gI (gT (iA ?_))|refine ae.nrm ?_)<;>conv=>whnf
end Go.CK
