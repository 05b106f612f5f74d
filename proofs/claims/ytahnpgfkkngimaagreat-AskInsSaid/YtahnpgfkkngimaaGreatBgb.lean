/- A part. By an AI agent. -/
import Derived.Test.YtahnpgfkkngimaaGreatBga
set_option linter.unusedSimpArgs false
set_option linter.unusedVariables false
set_option maxRecDepth 100000
namespace Go.CK
open Go.AM Go.Proofs
variable{vals:List AV}{bs:List Box}{Q:AV->List Box->Prop}
def Pc:RC:=
 (.seq (rR [0,1] [oQ 4 (.mov (.c (.bool false)))]) (.seq (rR [4] [qM 5 0,qM 6 1,oQ 7 (cF 52 [(.t 5),(.t 6),(.c (.int .i64 64))]),oQ 8 (.bin .lss (.t 7) (.c (.int .i64 0))),qM 4 8]) .ret))
theorem Pe(hn:vals.length<=9)(h:SP Tryz.prog true vals bs Pc [.slot 4] Q):AM.Sem Tryz.prog 33 vals bs Q:=
 oZ (keeps:=[(0,[0,1]),(1,[4])]) (solo:=[]) Tryz.func33 rfl hn h
end Go.CK
namespace Go.CK
open Go.AM Go.Proofs Go.RowKit
def kk(a b:Int)(c:Bool):List AV:=[.int .i64 a,.int .i64 b,.bool c]
def RKs:List (List AV):=[kk 7 8 false,kk 7 10 false,kk 7 10 true,kk 9 8 false,kk 9 8 true,kk 9 9 true,kk 10 10 true,kk 5 5 true,kk 6 6 true]
noncomputable def rFn:Func:=Tryz.f68
def O3:Code->Array Oper
 |.seq _ (.seq (.region _ ops _) _)=>ops
 |_=>#[]
def O4:Code->Array Oper
 |.seq (.region _ ops _) _=>ops
 |_=>#[]
noncomputable def rOps:Array Oper:=match rFn.body with
 |some c=>O3 c
 |none=>#[]
noncomputable def rOps0:Array Oper:=match rFn.body with
 |some c=>O4 c
 |none=>#[]
theorem O0:rFn.body=some (.seq (.region 0 rOps0 false) (.seq (.region 1 rOps true) .ret)):=by kernel_rfl
theorem Nv{α:Type}{ops:Array Oper}{i:Nat}{o:Oper}(ho:ops[i]? =some o){f:Oper->α}{x:α}(h:(ops[i]?).map f=some x):f o=x:=by
 rw[ho] at h;simpa using h
theorem M7{ops:Array Oper}{i k:Nat}{o:Oper}(ho:ops[i]? =some o){L:Nat->Bool}(h:(ops[i]?).map (λo=>o.after.any λe=>Region.binds .any e&&Nat.beq e.on k)=some true)(hp:∀e∈o.after,Region.binds .any e=true->L e.on=true):L k=true:=by
 have h2:=Nv ho h;obtain⟨e,he,hb⟩:=Array.any_eq_true'.1 h2;simp only[ZD] at hb;have:=hp e he hb.1
 rwa [ZO hb.2] at this
structure RI(B:List Box)(L:Nat->Bool)(s:St):Prop where
 lo:s.lo=B.length
 b0:L 0=false->s.bs=B
 dep:∀j,j<9->L (2*j+2)=true->L 0=true
 b1:L 0=true->s.get 1=.mpt B.length/\∃l x,s.bs=B++[x]/\x.lb? =some (mLB (skE 0 l) l.length)/\x.cs? =none/\(l=[]\/x=.loop (mLB (skE 0 l) l.length))/\(∀e∈l,e.2=.bool true/\∃j,j<9/\L (2*j+2)=true/\RKs[j]? =some e.1)/\∀j,j<9->L (2*j+2)=true->∃e∈l,RKs[j]? =some e.1
 bk:∀j,j<9->L (2*j+1)=true->some (s.get (j+2))=(RKs[j]?).map .agg
 r1:L 19=true->L 0=true/\s.get 11=.mpt B.length
 r0:L 20=true->L 19=true/\s.get 0=.mpt B.length
theorem M5(s:St)(k:Nat)(v:AV):(s.put (some k) v).get k=v:=by
 simp only[St.get,St.put,eZ];simp
theorem O6:∀i j:Nat,i<9->j<9->i≠j->∀a b,RKs[i]? =some a->RKs[j]? =some b->mC [.i,.i,.b] a b=some false:=by
 intro i j hi hj hij a b ha hb;have h1:i=0\/i=1\/i=2\/i=3\/i=4\/i=5\/i=6\/i=7\/i=8:=by omega
 have h2:j=0\/j=1\/j=2\/j=3\/j=4\/j=5\/j=6\/j=7\/j=8:=by omega
 rcases h1 with rfl|rfl|rfl|rfl|rfl|rfl|rfl|rfl|rfl<;>rcases h2 with rfl|rfl|rfl|rfl|rfl|rfl|rfl|rfl|rfl<;>first|exact absurd rfl hij|(cases ha;cases hb;rfl)
theorem O5{j:Nat}{k:List AV}(h:RKs[j]? =some k):dB (.agg k)=true/\k.length=3:=by
 have hj:j<9:=(ZB.1 h).1;have h1:j=0\/j=1\/j=2\/j=3\/j=4\/j=5\/j=6\/j=7\/j=8:=by omega
 rcases h1 with rfl|rfl|rfl|rfl|rfl|rfl|rfl|rfl|rfl<;>(cases h;exact⟨rfl,rfl⟩)
theorem NW{cs:List AV}:∀{l:List (List AV×AV)},(∀e∈l,mC [.i,.i,.b] cs e.1=some false)->MN [.i,.i,.b] cs l=some none
 |[],_=>rfl
 |(k,x)::l,h=>by
  have h1:=h _ (ZV ..);simp only[MN,h1];exact NW λe he=>h e (ZQ _ he)
abbrev upL(L:Nat->Bool)(i:Nat):Nat->Bool:=λk=>if k=i then true else L k
theorem MB{L:Nat->Bool}{i q:Nat}(h:q≠i):upL L i q=L q:=if_neg h
theorem rB(j:Nat)(a b:Int)(c:Bool)(hj:RKs[j]? =some (kk a b c))(hj9:j<9){o:Oper}(ho:rOps[2*j+1]? =some o)(hc:(rOps[2*j+1]?).map (cOp Tryz.prog 12 (λ_ _=>false) rOps)=some (some (oQ (j+2) (.build [(.int .i64 0),(.int .i64 0),(.bool false)] [(0,1,(.c (.int .i64 a))),(1,1,(.c (.int .i64 b))),(2,1,(.c (.bool c)))]))))
  {B:List Box} {L:Nat->Bool} {s:St} (hI:RI B L s) (hL:L (2*j+1)=false):OpI Tryz.prog 12 rOps (2*j+1) s (RI B (upL L (2*j+1))):=by
 refine OpI.run (HH (Nv ho hc)) ho (dr:=true) ?_;show RI B _ (s.put (some (j+2)) (.agg (kk a b c)));have hg:∀t,t≠j+2->(s.put (some (j+2)) (.agg (kk a b c))).get t=s.get t:=λt ht=>St.fg _ _ _ ht;refine⟨hI.lo,λh=>hI.b0 (by simpa[upL] using h),λj' h1 h2=>?_,λh=>?_,λj' h1 h2=>?_,λh=>?_,λh=>?_⟩
 .have:L 0=true:=hI.dep j' h1 (by rwa [MB (by omega)] at h2)
  simp[upL,this]
 .obtain ⟨h1,l,x,h2,h3,h4,h5,h6,h7⟩:=hI.b1 (by simpa[upL] using h)
  refine⟨by rw[hg 1 (by omega)];exact h1,l,x,h2,h3,h4,h5,λe he=>?_,λj' hj' h8=>h7 j' hj' (by rwa [MB (by omega)] at h8)⟩
  obtain⟨h8,j',h9,h10,h11⟩:=h6 e he;exact⟨h8,j',h9,by simp[upL,h10],h11⟩
 .by_cases e:j'=j
  .subst e;rw[M5,hj];rfl
  .rw [hg _ (by omega)]
   exact hI.bk j' h1 (by rwa [MB (by omega)] at h2)
 .obtain ⟨h1,h2⟩:=hI.r1 (by rwa [MB (by omega)] at h)
  exact⟨by simp[upL,h1],by rw[hg _ (by omega)];exact h2⟩
 .obtain ⟨h1,h2⟩:=hI.r0 (by rwa [MB (by omega)] at h)
  exact⟨by simp[upL,h1],by rw[hg _ (by omega)];exact h2⟩
theorem rIn(j:Nat)(a b:Int)(c:Bool)(hj:RKs[j]? =some (kk a b c))(hj9:j<9){o:Oper}(ho:rOps[2*j+2]? =some o)(hc:(rOps[2*j+2]?).map (λo=>match o.op with
   |.insert t m k v=>(match Tryz.prog.underlying t with
    |some (.map kt _)=>match xQ Tryz.prog kt with
     |some [.i,.i,.b]=>true
     |_=>false
    |_=>false)&&(match opd m,opd k,opd v with
    |some (.t 1),some (.t q),some (.c (.bool true))=>Nat.beq q (j+2)
    |_,_,_=>false)
   |_=>false)=some true) (hq:(rOps[2*j+2]?).map (λo=>o.dst.isNone&&o.guard.isNone)=some true) (ha:(rOps[2*j+2]?).map (λo=>o.after.any λe=>Region.binds .any e&&Nat.beq e.on 0)=some true) (hb:(rOps[2*j+2]?).map (λo=>o.after.any λe=>Region.binds .any e&&Nat.beq e.on (2*j+1))=some true)
  {B:List Box} {L:Nat->Bool} {s:St} (hpre:∀e∈o.after,Region.binds .any e=true->L e.on=true) (hI:RI B L s) (hL:L (2*j+2)=false):OpI Tryz.prog 12 rOps (2*j+2) s (RI B (upL L (2*j+2))):=by
 have hL0:=M7 ho ha hpre;have hLk:=M7 ho hb hpre;have hc:=Nv ho hc;have hq:=Nv ho hq;simp only[ZD,Option.isNone_iff_eq_none] at hq;obtain⟨hdst,hgd⟩:=hq;have hkey:=hI.bk j hj9 hLk;rw[hj] at hkey;have hkey:s.get (j+2)=.agg (kk a b c):=by simpa using hkey
 obtain⟨h1,l,x,h2,h3,h4,h5,h6,h7⟩:=hI.b1 hL0;split at hc
 .rename_i t m k v hop;rw[ZD] at hc;obtain⟨hc1,hc2⟩:=hc;split at hc1
  .rename_i kt et hut;split at hc1
   .rename_i heq;split at hc2
    .rename_i q hm hk hv;have hqe:=ZO hc2;subst hqe;refine OpI.sem ho (λy=>by simp[Region.wanted,hgd]) (λd e=>by rw[hdst] at e;cases e) (Od hop hdst hm hk hv hut heq ?_)
     have em:s.ev (.t 1)=.mpt B.length:=by show (s.get 1).aF=_;rw[h1];rfl
     have ek:s.ev (.t (j+2))=.agg (kk a b c):=by show (s.get (j+2)).aF=_;rw[hkey];rfl
     have hne:∀e∈l,mC [.i,.i,.b] (kk a b c) e.1=some false:=λe he=>by
      obtain⟨_,j',h9,h10,h11⟩:=h6 e he;have hjj:j≠j':=λq=>by subst q;rw[hL] at h10;cases h10
      exact O6 j j' hj9 h9 hjj _ _ hj h11
     have hlo:Oq l:=λe he=>by
      obtain⟨h8,j',h9,h10,h11⟩:=h6 e he;exact⟨(O5 h11).1,by rw[h8];rfl⟩
     refine⟨B.length,kk a b c,l,x,em,ek,by rw[h2];simp,h3,h4,⟨rfl,rfl⟩,hlo,NW hne,rfl,?_⟩
     show RI B (upL L (2*j+2)) ⟨s.env,s.bs.set B.length (.loop (mLB (skE 0 (l++[(kk a b c,.bool true)])) (l.length+1))),s.lo⟩;refine⟨hI.lo,λh=>?_,λj' h1 h2=>by simp[upL,hL0],λ_=>⟨h1,l++[(kk a b c,.bool true)],.loop (mLB (skE 0 (l++[(kk a b c,.bool true)])) (l++[(kk a b c,AV.bool true)]).length),?_,rfl,rfl,.inr rfl,λe he=>?_,λj' hj' h8=>?_⟩,λj' h1 h2=>?_,λh=>?_,λh=>?_⟩
     .simp [upL,hL0] at h
     .show s.bs.set B.length _=_;rw[h2,j4 rfl];simp
     .rcases ZY.1 he with he|he
      .obtain ⟨h8,j',h9,h10,h11⟩:=h6 e he;exact⟨h8,j',h9,by simp[upL,h10],h11⟩
      .simp at he;subst he;exact⟨rfl,j,hj9,by simp[upL],hj⟩
     .by_cases e:j'=j
      .subst e;exact⟨_,YU _ (Zp.2 rfl),hj⟩
      .obtain ⟨e',h9,h10⟩:=h7 j' hj' (by rwa [MB (by omega)] at h8)
       exact⟨e',Zy _ h9,h10⟩
     .exact hI.bk j' h1 (by rwa [MB (by omega)] at h2)
     .obtain ⟨h1,h2⟩:=hI.r1 (by rwa [MB (by omega)] at h)
      exact⟨by simp[upL,h1],h2⟩
     .obtain ⟨h1,h2⟩:=hI.r0 (by rwa [MB (by omega)] at h)
      exact⟨by simp[upL,h1],h2⟩
    .cases hc2
   .cases hc1
  .cases hc1
 .cases hc
theorem r_0{o:Oper}(ho:rOps[0]? =some o){B:List Box}{L:Nat->Bool}{s:St}(hI:RI B L s)(hL:L 0=false):OpI Tryz.prog 12 rOps 0 s (RI B (upL L 0)):=by
 have hc:(rOps[0]?).map (cOp Tryz.prog 12 (λ_ _=>false) rOps)=some (some (oQ 1 (.eff .mkM []))):=by kernel_rfl
 refine OpI.run (HH (Nv ho hc)) ho (dr:=false) ?_;show RI B _ (St.put ⟨s.env,s.bs++[.mp []],s.lo⟩ (some 1) (.mpt s.bs.length));have hb:=hI.b0 hL;have hno:∀j,j<9->L (2*j+2)=true->False:=λj h1 h2=>by rw[hI.dep j h1 h2] at hL;cases hL
 have hg:∀t,t≠1->(St.put ⟨s.env,s.bs++[.mp []],s.lo⟩ (some 1) (.mpt s.bs.length)).get t=s.get t:=λt ht=>St.fg _ _ _ ht;refine⟨hI.lo,λh=>by simp[upL] at h,λj' h1 h2=>by simp[upL],λ_=>⟨?_,[],.mp [],?_,rfl,rfl,.inl rfl,λe he=>by (cases he),λj' hj' h8=>(hno j' hj' (by simpa[upL] using h8)).elim⟩,λj' h1 h2=>?_,λh=>?_,λh=>?_⟩
 .rw [M5,hb]
 .show s.bs++[.mp []]=_;rw[hb]
 .rw [hg _ (by omega)]
  exact hI.bk j' h1 (by simpa[upL] using h2)
 .obtain ⟨h1,h2⟩:=hI.r1 (by simpa[upL] using h)
  rw[hL] at h1;cases h1
 .obtain ⟨h1,h2⟩:=hI.r0 (by simpa[upL] using h)
  rw[(hI.r1 h1).1] at hL;cases hL
theorem Q5{o:Oper}(ho:rOps[19]? =some o){B:List Box}{L:Nat->Bool}{s:St}(hpre:∀e∈o.after,Region.binds .any e=true->L e.on=true)(hI:RI B L s)(hL:L 19=false):OpI Tryz.prog 12 rOps 19 s (RI B (upL L 19)):=by
 have hc:(rOps[19]?).map (cOp Tryz.prog 12 (λ_ _=>false) rOps)=some (some (oQ 11 (.mov (.t 1)))):=by kernel_rfl
 have h0:L 0=true:=M7 ho (by kernel_rfl) hpre
 refine OpI.run (HH (Nv ho hc)) ho (dr:=true) ?_;obtain⟨h1,l,x,h2,h3,h4,h5,h6,h7⟩:=hI.b1 h0;have em:s.ev (.t 1)=.mpt B.length:=by show (s.get 1).aF=_;rw[h1];rfl
 show RI B _ (s.put (some 11) (s.ev (.t 1)));rw[em];have hg:∀t,t≠11->(s.put (some 11) (.mpt B.length)).get t=s.get t:=λt ht=>St.fg _ _ _ ht;have hup:∀q,q≠19->upL L 19 q=L q:=λq hq=>by simp[upL,hq]
 refine⟨hI.lo,λh=>?_,λj' h1 h2=>by rw[hup 0 (by omega)];exact h0,λ_=>⟨?_,l,x,h2,h3,h4,h5,λe he=>?_,λj' hj' h8=>h7 j' hj' (by rwa [hup _ (by omega)] at h8)⟩,λj' h1 h2=>?_,λh=>⟨by rw[hup 0 (by omega)];exact h0,M5 _ _ _⟩,λh=>?_⟩
 .rw [hup 0 (by omega),h0] at h;cases h
 .rw [hg 1 (by omega)];exact h1
 .obtain ⟨h8,j',h9,h10,h11⟩:=h6 e he;exact⟨h8,j',h9,by rw[hup _ (by omega)];exact h10,h11⟩
 .rw [hg _ (by omega)]
  by_cases h19:2*j'+1=19
  .omega
  .exact hI.bk j' h1 (by rwa [hup _ h19] at h2)
 .obtain ⟨h1,h2⟩:=hI.r0 (by rwa [hup 20 (by omega)] at h)
  rw[hL] at h1;cases h1
theorem Q4{o:Oper}(ho:rOps[20]? =some o){B:List Box}{L:Nat->Bool}{s:St}(hpre:∀e∈o.after,Region.binds .any e=true->L e.on=true)(hI:RI B L s)(hL:L 20=false):OpI Tryz.prog 12 rOps 20 s (RI B (upL L 20)):=by
 have hc:(rOps[20]?).map (cOp Tryz.prog 12 (λ_ _=>false) rOps)=some (some (oQ 0 (.mov (.t 11)))):=by kernel_rfl
 have h19:L 19=true:=M7 ho (by kernel_rfl) hpre
 refine OpI.run (HH (Nv ho hc)) ho (dr:=true) ?_;obtain⟨h0,hr⟩:=hI.r1 h19;have em:s.ev (.t 11)=.mpt B.length:=by show (s.get 11).aF=_;rw[hr];rfl
 show RI B _ (s.put (some 0) (s.ev (.t 11)));rw[em];have hg:∀t,t≠0->(s.put (some 0) (.mpt B.length)).get t=s.get t:=λt ht=>St.fg _ _ _ ht;have hup:∀q,q≠20->upL L 20 q=L q:=λq hq=>by simp[upL,hq]
 obtain⟨h1,l,x,h2,h3,h4,h5,h6,h7⟩:=hI.b1 h0;refine⟨hI.lo,λh=>?_,λj' h1 h2=>by rw[hup 0 (by omega)];exact h0,λ_=>⟨?_,l,x,h2,h3,h4,h5,λe he=>?_,λj' hj' h8=>?_⟩,λj' h1 h2=>?_,λh=>⟨by rw[hup 0 (by omega)];exact h0,?_⟩,λh=>⟨by rw[hup 19 (by omega)];exact h19,M5 _ _ _⟩⟩
 .rw [hup 0 (by omega),h0] at h;cases h
 .rw [hg 1 (by omega)];exact h1
 .obtain ⟨h8,j',h9,h10,h11⟩:=h6 e he;exact⟨h8,j',h9,by rw[hup _ (by omega)];exact h10,h11⟩
 .exact h7 j' hj' (by rwa [hup _ (by omega)] at h8)
 .rw [hg _ (by omega)]
  exact hI.bk j' h1 (by rwa [hup _ (by omega)] at h2)
 .rw [hg _ (by omega)];exact hr
def NQ(l:List (List AV×AV)):Prop:=(∀e∈l,e.2=.bool true/\e.1∈RKs)/\∀k∈RKs,∃e∈l,e.1=k
theorem OB(B:List Box):AM.Sem Tryz.prog 68 [] B λr bs'=>∃l,NQ l/\r=.mpt B.length/\bs'=B++[.loop (mLB (skE 0 l) l.length)]:=by
 refine Sem.ofW (fn:=rFn) (rs:=[.slot 0]) Tryz.func68 O0 (by kernel_rfl) (by simp) ?_
 have hc0:pr Tryz.prog 12 (λ_ _=>false) rOps0 rOps0.toList=some [oQ 0 (.mov (.c .nmp))]:=by kernel_rfl
 refine WP.seq (WP.region (tk:=λ_ _=>false) hc0 ?_);show WP Tryz.prog 12 true (.seq (.region 1 rOps true) .ret) (St.put ⟨params 0 [],B,B.length⟩ (some 0) .nmp) _;refine WP.seq (WP.Oa (by kernel_rfl) (RI B) (by kernel_rfl) (λL s i o ho hL hpre hI=>?_) ?_ λL s hall hI=>?_)
 .have hi:i<21:=by
   have h1:rOps.size=21:=by kernel_rfl
   have:=(Zh.1 ho).1;omega
  match i,hi with
  |0,_=>exact r_0 ho hI hL
  |1,_=>exact rB 0 7 8 false rfl (by omega) ho (by kernel_rfl) hI hL
  |2,_=>exact rIn 0 7 8 false rfl (by omega) ho (by kernel_rfl) (by kernel_rfl) (by kernel_rfl) (by kernel_rfl) hpre hI hL
  |3,_=>exact rB 1 7 10 false rfl (by omega) ho (by kernel_rfl) hI hL
  |4,_=>exact rIn 1 7 10 false rfl (by omega) ho (by kernel_rfl) (by kernel_rfl) (by kernel_rfl) (by kernel_rfl) hpre hI hL
  |5,_=>exact rB 2 7 10 true rfl (by omega) ho (by kernel_rfl) hI hL
  |6,_=>exact rIn 2 7 10 true rfl (by omega) ho (by kernel_rfl) (by kernel_rfl) (by kernel_rfl) (by kernel_rfl) hpre hI hL
  |7,_=>exact rB 3 9 8 false rfl (by omega) ho (by kernel_rfl) hI hL
  |8,_=>exact rIn 3 9 8 false rfl (by omega) ho (by kernel_rfl) (by kernel_rfl) (by kernel_rfl) (by kernel_rfl) hpre hI hL
  |9,_=>exact rB 4 9 8 true rfl (by omega) ho (by kernel_rfl) hI hL
  |10,_=>exact rIn 4 9 8 true rfl (by omega) ho (by kernel_rfl) (by kernel_rfl) (by kernel_rfl) (by kernel_rfl) hpre hI hL
  |11,_=>exact rB 5 9 9 true rfl (by omega) ho (by kernel_rfl) hI hL
  |12,_=>exact rIn 5 9 9 true rfl (by omega) ho (by kernel_rfl) (by kernel_rfl) (by kernel_rfl) (by kernel_rfl) hpre hI hL
  |13,_=>exact rB 6 10 10 true rfl (by omega) ho (by kernel_rfl) hI hL
  |14,_=>exact rIn 6 10 10 true rfl (by omega) ho (by kernel_rfl) (by kernel_rfl) (by kernel_rfl) (by kernel_rfl) hpre hI hL
  |15,_=>exact rB 7 5 5 true rfl (by omega) ho (by kernel_rfl) hI hL
  |16,_=>exact rIn 7 5 5 true rfl (by omega) ho (by kernel_rfl) (by kernel_rfl) (by kernel_rfl) (by kernel_rfl) hpre hI hL
  |17,_=>exact rB 8 6 6 true rfl (by omega) ho (by kernel_rfl) hI hL
  |18,_=>exact rIn 8 6 6 true rfl (by omega) ho (by kernel_rfl) (by kernel_rfl) (by kernel_rfl) (by kernel_rfl) hpre hI hL
  |19,_=>exact Q5 ho hpre hI hL
  |20,_=>exact Q4 ho hpre hI hL
 .exact ⟨rfl,λ_=>rfl,(λj h1 h2=>by cases h2),(λh=>by cases h),(λj h1 h2=>by cases h2),(λh=>by cases h),λh=>by cases h⟩
 .refine WP.ret ⟨s,aB.refl s,?_⟩;have h1:rOps.size=21:=by kernel_rfl
  obtain⟨h19,hr⟩:=hI.r0 (hall 20 (by omega))
  obtain⟨_,l,x,h2,h3,h4,h5,h6,h7⟩:=hI.b1 (hall 0 (by omega))
  have hx:x=.loop (mLB (skE 0 l) l.length):=by
   rcases h5 with h5|h5
   .obtain ⟨e,he,_⟩:=h7 0 (by omega) (hall 2 (by omega))
    rw[h5] at he;cases he
   .exact h5
  show Ir [.slot 0] _ .ret s;have hb:s.bs=B++[.loop (mLB (skE 0 l) l.length)]:=by rw[h2,hx]
  refine⟨l,⟨λe he=>?_,λk hk=>?_⟩,hr,hb⟩
  .obtain ⟨h8,j,_,_,h9⟩:=h6 e he;exact⟨h8,ZE h9⟩
  .obtain ⟨j,hj⟩:=List.mem_iff_getElem?.1 hk;have hj9:j<9:=(ZB.1 hj).1;obtain⟨e,he,h8⟩:=h7 j hj9 (hall _ (by omega))
   rw[hj] at h8;exact⟨e,he,(XV h8).symm⟩
end Go.CK
namespace Go.CK
open Go.AM Go.Proofs
def NO(b:Bool):Int:=match b with
 |true=>1
 |false=>2
theorem LP(b:Bool):Fun Tryz.prog 57 [.bool b] (.int .i64 (NO b)):=by
 cases b
 .refine Fun.of (MR (by simp) ?_) rfl rfl
  conv=>whnf
  repeat' (first|refine gC (cN ?_)|refine af.nrm ?_)<;>conv=>whnf
  rfl
 .refine Fun.of (MR (by simp) ?_) rfl rfl
  conv=>whnf
  repeat' (first|refine gC (cY ?_)|refine af.nrm ?_)<;>conv=>whnf
  rfl
theorem LY(b:Bool):Fun Tryz.prog 63 [.bool b] (.int .i64 (NO b)):=by
 cases b
 .refine Fun.of (L1 (by simp) ?_) rfl rfl
  conv=>whnf
  repeat' (first|refine gC (cN ?_)|refine af.nrm ?_)<;>conv=>whnf
  rfl
 .refine Fun.of (L1 (by simp) ?_) rfl rfl
  conv=>whnf
  repeat' (first|refine gC (cY ?_)|refine af.nrm ?_)<;>conv=>whnf
  rfl
theorem Mk{l:List Tm}(hl:l.length<=9223372036854775807):AM.Sem Tryz.prog 96 [.ptr 0 0,.sl .no (l.map Tm.av),.int .i64 20] [.cells [.int .i64 200]] (rY 200 (vLB 200 20 l) (Tm.szs l)):=HQ ⟨by decide,by decide⟩ ⟨by decide,by decide⟩ hl λx _ n h1 h2=>FQ x n 20 h1 h2 (by decide) (by decide)
def At.right(x:At):Bool:=mf x.name&&(decide (x.args.length<=6)&&vLB 200 20 x.args)
theorem NR(x:At)(hl:x.args.length<=9223372036854775807):Fun Tryz.prog 95 [x.av] (.bool x.right):=by
 have hn:=Gq x.name;unfold At.right
 cases h1:mf x.name with
 |false=>
  rw[h1] at hn;refine Fun.of (L3 (by simp) ?_) rfl rfl
  conv=>whnf
  repeat' (first|refine gF (ab.fn (hn) ?_)|refine gC (cN ?_)|refine af.nrm ?_)<;>conv=>whnf
  rfl
 |true=>
 rw[h1] at hn
 by_cases h6:x.args.length<=6
 .rw [decide_eq_true h6];refine Fun.of (L3 (by simp) ?_) rfl rfl
  conv=>whnf
  repeat' (first|refine gF (ab.fn (hn) ?_)|(refine gC ?_;first|refine cY ?_|refine gD (cI ?_))|refine gL (.map ?_))<;>conv=>whnf
  refine ab.at [1] (Mk hl) rfl rfl ?_ oko ?_
  .rintro r bs' ⟨rfl,m',rfl,_⟩;exact⟨rfl,rfl,oko⟩
  rintro r bs' ⟨rfl,m',rfl,hm'⟩
  conv=>whnf
  repeat' refine gC (gD (cI ?_))<;>conv=>whnf
  conv=>whnf
  repeat' refine af.nrm ?_<;>conv=>whnf
  rfl
 .rw [decide_eq_false h6];refine Fun.of (L3 (by simp) ?_) rfl rfl
  conv=>whnf
  repeat' (first|refine gF (ab.fn (hn) ?_)|(refine gC ?_;first|refine cY ?_|refine gD (cJ ?_))|refine gL (.map ?_)|refine af.nrm ?_)<;>conv=>whnf
  rfl
def arG(op:Int):Int:=if op=1\/op=2 then 0 else if op=11\/op=12 then 1 else 2
def Gl.right(g:Gl):Bool:=if g.op=0 then (At.mk g.name g.args).right else decide (0<g.op/\g.op<=12)&&(decide (g.name=⟨⟨[]⟩⟩)&&(decide ((g.args.length:Int)=arG g.op)&&vLB 200 20 g.args))
theorem M9(g:Gl)(hl:g.args.length<=9223372036854775807):Fun Tryz.prog 58 [g.av] (.bool g.right):=by
 have hc:=NR (At.mk g.name g.args) hl;unfold Gl.right
 by_cases h0:g.op=0
 .rw [if_pos h0];refine Fun.of (sb (by simp) ?_) rfl rfl
  conv=>whnf
  repeat' (first|refine gF (ab.fn (hc) ?_)|refine gC (gD (cI ?_))|refine af.nrm ?_)<;>conv=>whnf
 rw[if_neg h0]
 by_cases hr:0<g.op/\g.op<=12
 rotate_left
 .rw [decide_eq_false hr,Zu];refine Fun.of (sb (by simp) ?_) rfl rfl
  conv=>whnf
  repeat' (first|(refine gC ?_;first|refine cN ?_|(refine gD ?_;first|refine cI ?_|refine cJ ?_)|refine aq.lt (λhc=>?_) (λhc=>?_))|refine af.nrm ?_)<;>conv=>whnf
 by_cases hn:g.name=⟨⟨[]⟩⟩
 rotate_left
 .rw [decide_eq_false hn,Zu,Bool.and_false];refine Fun.of (sb (by simp) ?_) rfl rfl
  conv=>whnf
  repeat' (first|(refine gC ?_;first|refine cN ?_|(refine gD ?_;first|refine cI ?_|refine cJ ?_)|refine aq.dec (λhc=>?_) (λhc=>?_))|refine af.nrm ?_)<;>conv=>whnf
 rw[decide_eq_true hr,decide_eq_true hn,Za,Za]
 by_cases ha:(g.args.length:Int)=arG g.op
 rotate_left
 .rw [decide_eq_false ha,Zu];unfold arG at ha
  by_cases h1:g.op=1\/g.op=2
  .rw [if_pos h1] at ha;refine Fun.of (sb (by simp) ?_) rfl rfl
   conv=>whnf
   repeat' (first|(refine gC ?_;first|(refine gD ?_;first|refine cI ?_|refine cJ ?_)|refine aq.dec (λhc=>?_) (λhc=>?_))|refine gL (.map ?_)|refine af.nrm ?_)<;>conv=>whnf
  by_cases h2:g.op=11\/g.op=12
  .rw [if_neg h1,if_pos h2] at ha;refine Fun.of (sb (by simp) ?_) rfl rfl
   conv=>whnf
   repeat' (first|(refine gC ?_;first|(refine gD ?_;first|refine cI ?_|refine cJ ?_)|refine aq.dec (λhc=>?_) (λhc=>?_))|refine gL (.map ?_)|refine af.nrm ?_)<;>conv=>whnf
  rw[if_neg h1,if_neg h2] at ha;refine Fun.of (sb (by simp) ?_) rfl rfl
  conv=>whnf
  repeat' (first|(refine gC ?_;(refine gD ?_;first|refine cI ?_|refine cJ ?_))|refine gL (.map ?_)|refine af.nrm ?_)<;>conv=>whnf
 rw[decide_eq_true ha,Za];unfold arG at ha
 by_cases h1:g.op=1\/g.op=2
 .rw [if_pos h1] at ha;rcases h1 with h1|h1
  .refine Fun.of (sb (by simp) ?_) rfl rfl
   conv=>whnf
   repeat' (first|(refine gC ?_;(refine gD ?_;first|refine cI ?_|refine cJ ?_))|refine gL (.map ?_))<;>conv=>whnf
   refine ab.at [1] (Mk hl) rfl rfl ?_ oko ?_
   .rintro r bs' ⟨rfl,m',rfl,_⟩;exact⟨rfl,rfl,oko⟩
   rintro r bs' ⟨rfl,m',rfl,hm'⟩
   conv=>whnf
   repeat' refine gC (gD (cI ?_))<;>conv=>whnf
   conv=>whnf
   repeat' refine af.nrm ?_<;>conv=>whnf
   all_goals rfl
  .refine Fun.of (sb (by simp) ?_) rfl rfl
   conv=>whnf
   repeat' (first|(refine gC ?_;(refine gD ?_;first|refine cI ?_|refine cJ ?_))|refine gL (.map ?_))<;>conv=>whnf
   refine ab.at [1] (Mk hl) rfl rfl ?_ oko ?_
   .rintro r bs' ⟨rfl,m',rfl,_⟩;exact⟨rfl,rfl,oko⟩
   rintro r bs' ⟨rfl,m',rfl,hm'⟩
   conv=>whnf
   repeat' refine gC (gD (cI ?_))<;>conv=>whnf
   conv=>whnf
   repeat' refine af.nrm ?_<;>conv=>whnf
   all_goals rfl
 by_cases h2:g.op=11\/g.op=12
 .rw [if_neg h1,if_pos h2] at ha;rcases h2 with h2|h2
  .refine Fun.of (sb (by simp) ?_) rfl rfl
   conv=>whnf
   repeat' (first|(refine gC ?_;(refine gD ?_;first|refine cI ?_|refine cJ ?_))|refine gL (.map ?_))<;>conv=>whnf
   refine ab.at [1] (Mk hl) rfl rfl ?_ oko ?_
   .rintro r bs' ⟨rfl,m',rfl,_⟩;exact⟨rfl,rfl,oko⟩
   rintro r bs' ⟨rfl,m',rfl,hm'⟩
   conv=>whnf
   repeat' refine gC (gD (cI ?_))<;>conv=>whnf
   conv=>whnf
   repeat' refine af.nrm ?_<;>conv=>whnf
   all_goals rfl
  .refine Fun.of (sb (by simp) ?_) rfl rfl
   conv=>whnf
   repeat' (first|(refine gC ?_;(refine gD ?_;first|refine cI ?_|refine cJ ?_))|refine gL (.map ?_))<;>conv=>whnf
   refine ab.at [1] (Mk hl) rfl rfl ?_ oko ?_
   .rintro r bs' ⟨rfl,m',rfl,_⟩;exact⟨rfl,rfl,oko⟩
   rintro r bs' ⟨rfl,m',rfl,hm'⟩
   conv=>whnf
   repeat' refine gC (gD (cI ?_))<;>conv=>whnf
   conv=>whnf
   repeat' refine af.nrm ?_<;>conv=>whnf
   all_goals rfl
 rw[if_neg h1,if_neg h2] at ha;refine Fun.of (sb (by simp) ?_) rfl rfl
 conv=>whnf
 repeat' (first|(refine gC ?_;(refine gD ?_;first|refine cI ?_|refine cJ ?_))|refine gL (.map ?_))<;>conv=>whnf
 refine ab.at [1] (Mk hl) rfl rfl ?_ oko ?_
 .rintro r bs' ⟨rfl,m',rfl,_⟩;exact⟨rfl,rfl,oko⟩
 rintro r bs' ⟨rfl,m',rfl,hm'⟩
 conv=>whnf
 repeat' refine gC (gD (cI ?_))<;>conv=>whnf
 conv=>whnf
 repeat' refine af.nrm ?_<;>conv=>whnf
 all_goals rfl
def raB(l:List Tm):Bool:=l.all Tm.right&&decide ((Tm.szs l:Int)<=200)
theorem OG(n:Int)(h:0<=n):∀l:List Tm,(Tm.eE l:Int)<=n↔∀x∈l,(x.dep:Int)<=n
 |[]=>by simp[Tm.eE,h]
 |x::l=>by
  have ih:=OG n h l;simp only[Tm.eE,ZI,forall_eq_or_imp,<-ih];omega
theorem NK:∀l:List Tm,Tm.bN l=l.all Tm.form
 |[]=>rfl
 |x::l=>by rw[Tm.bN,Yp,NK l]
theorem OV(l:List Tm):raB l=vLB 200 20 l:=by
 unfold raB vLB;rw[Bool.eq_iff_iff,NK];simp only[ZD,decide_eq_true_eq,ZS];rw[OG 20 (by decide)]
 constructor
 .rintro ⟨h1,h2⟩;exact⟨λx hx=>(Dg (h1 x hx)).1,h2,λx hx=>(Dg (h1 x hx)).2.2⟩
 .rintro ⟨h1,h2,h3⟩;refine⟨λx hx=>?_,h2⟩;have:=Og hx;unfold Tm.right vB;rw[h1 x hx,Za,decide_eq_true_eq];exact⟨by omega,h3 x hx⟩
theorem M0{l:List Tm}(hN:Tm.ai l<=100000000)(hl:l.length<=4000000000):Fun Tryz.prog 75 [.sl .no (l.map Tm.av)] (.bool (vLB 200 20 l)):=by
 rw[<-OV];refine Fun.of (Mg (by simp) ?_) rfl rfl
 conv=>whnf
 skip;refine aw.by (fb:=true) (λ_ (j:Nat)=>⟨[(0,.sl .no (l.map Tm.av)),(3,.int .i64 (Tm.szs (l.take j):Int)),(4,.int .i64 (j:Int))],[],0⟩) (λj=>j<=l.length/\(l.take j).all Tm.right=true) (λj=>l.length-j) 0 ⟨ZJ _,rfl⟩ ?_ ?_
 .refine ah.at_ ?_ rfl
  conv=>whnf
  refine And.intro ?_ ?_<;>conv=>whnf
  all_goals repeat' (first|(refine gV ?_;first|refine vE ?_|refine vI ?_|(refine WkN.norm ?_ ?_;(focus (simp[AV.norm,AV.aD,Tm.szs];done))))|exact True.intro)<;>conv=>whnf
 .rintro j ⟨q1,q2⟩
  by_cases hj:j<l.length
  .obtain ⟨x,hx⟩:∃x,l[j]? =some x:=⟨_,ZA hj⟩;have htk:l.take (j+1)=l.take j++[x]:=by rw[Zz,hx];rfl
   have hxm:=ZE hx;have hxn:=kP hxm;have h1:=j6 x (by omega)
   have h2:=Gf x (by omega)
   have h3:=te l hx;have h4:=qw l
   cases hr:x.right with
   |false=>
    rw[hr] at h1
    have:raB l=false:=by
     unfold raB;rw[List.all_eq_false.2 ⟨x,hxm,by simp[hr]⟩,Zu]
    rw[this]
    conv=>whnf
    repeat' (first|refine gF (ab.fn (h1) ?_)|(refine gC ?_;first|refine cN ?_|refine .not ?_|refine gD (cI ?_))|refine gL (.map ?_)|refine gI (gT (iA ?_))|refine af.nrm ?_)<;>conv=>whnf
   |true=>
    rw[hr] at h1
    conv=>whnf
    repeat' (first|(refine gF ?_;first|refine ab.fn (h1) ?_|refine ab.fn (h2) ?_)|(refine gC ?_;first|refine cY ?_|refine .not ?_|refine gD (cI ?_))|refine gW (wI ?_)|refine gL (.map ?_)|refine gI (gT (iA ?_)))<;>conv=>whnf
    refine⟨j+1,⟨⟨hj,by rw[htk];simp[q2,hr]⟩,by omega⟩,?_⟩
    refine ah.at_ ?_ rfl
    conv=>whnf
    refine And.intro ?_ ?_<;>conv=>whnf
    all_goals repeat' (first|(refine gV ?_;first|refine vE ?_|refine vI ?_|(refine WkN.norm ?_ ?_;(focus (simp[AV.norm,AV.aD,htk,pD];done))))|exact True.intro)<;>conv=>whnf
  .obtain rfl:j=l.length:=by omega
   rw[Zw] at q2|-;unfold raB;rw[q2,Za]
   conv=>whnf
   repeat' (first|refine gC (gD (cJ ?_))|refine gL (.map ?_)|refine af.nrm ?_)<;>conv=>whnf
theorem Nf(x:At)(hN:Tm.ai x.args<=100000000)(hl:x.args.length<=4000000000):Fun Tryz.prog 73 [x.av] (.bool x.right):=by
 have hn:=EF x.name;have hr:=M0 hN hl;unfold At.right
 cases h1:mf x.name with
 |false=>
  rw[h1] at hn;refine Fun.of (LQ (by simp) ?_) rfl rfl
  conv=>whnf
  repeat' (first|refine gF (ab.fn (hn) ?_)|refine gC (cN ?_)|refine af.nrm ?_)<;>conv=>whnf
  all_goals rfl
 |true=>
 rw[h1] at hn
 by_cases h6:x.args.length<=6
 .rw [decide_eq_true h6];refine Fun.of (LQ (by simp) ?_) rfl rfl
  conv=>whnf
  repeat' (first|(refine gF ?_;first|refine ab.fn (hn) ?_|refine ab.fn (hr) ?_)|(refine gC ?_;first|refine cY ?_|refine gD (cI ?_))|refine gL (.map ?_)|refine af.nrm ?_)<;>conv=>whnf
  all_goals rfl
 .rw [decide_eq_false h6];refine Fun.of (LQ (by simp) ?_) rfl rfl
  conv=>whnf
  repeat' (first|refine gF (ab.fn (hn) ?_)|(refine gC ?_;first|refine cY ?_|refine gD (cJ ?_))|refine gL (.map ?_)|refine af.nrm ?_)<;>conv=>whnf
  all_goals rfl
def arR(op:Int):Int:=if op=1\/op=2 then 0 else if op=11\/op=12 then 1 else if 2<op/\op<11 then 2 else-1
theorem OM(op:Int):Fun Tryz.prog 74 [.int .i64 op] (.int .i64 (arR op)):=by
 unfold arR;refine Fun.of (Mx (by simp) ?_) rfl rfl
 conv=>whnf
 repeat' (first|(refine gC ?_;first|refine cY ?_|refine cN ?_|(refine gD ?_;first|refine cI ?_|refine cJ ?_)|refine aq.lt (λhc=>?_) (λhc=>?_)|refine aq.dec (λhc=>?_) (λhc=>?_))|refine af.nrm ?_)<;>conv=>whnf
 all_goals (congr 1;repeat (first|rw[if_pos (by omega)]|rw[if_neg (by omega)]))
theorem MP(g:Gl)(hN:Tm.ai g.args<=100000000)(hl:g.args.length<=4000000000):Fun Tryz.prog 30 [g.av] (.bool g.right):=by
 have hc:=Nf (At.mk g.name g.args) hN hl;have hr:=M0 hN hl;have ha:=OM g.op;unfold Gl.right
 by_cases h0:g.op=0
 .rw [if_pos h0];refine Fun.of (LN (by simp) ?_) rfl rfl
  conv=>whnf
  repeat' (first|refine gF (ab.fn (hc) ?_)|refine gC (gD (cI ?_))|refine af.nrm ?_)<;>conv=>whnf
 rw[if_neg h0]
 have hz:(0<g.op/\g.op<=12)/\arR g.op=arG g.op\/¬(0<g.op/\g.op<=12)/\arR g.op=-1:=by
  unfold arR arG
  by_cases h1:g.op=1\/g.op=2
  .rw [if_pos h1,if_pos h1];exact .inl ⟨by omega,rfl⟩
  .rw [if_neg h1,if_neg h1]
   by_cases h2:g.op=11\/g.op=12
   .rw [if_pos h2,if_pos h2];exact .inl ⟨by omega,rfl⟩
   .rw [if_neg h2,if_neg h2]
    by_cases h3:2<g.op/\g.op<11
    .rw [if_pos h3];exact .inl ⟨by omega,rfl⟩
    .rw [if_neg h3];exact .inr ⟨by omega,rfl⟩
 rcases hz with ⟨h1,h2⟩|⟨h1,h2⟩
 .rw [h2] at ha;rw[decide_eq_true h1,Za]
  by_cases hn:g.name=⟨⟨[]⟩⟩
  rotate_left
  .rw [decide_eq_false hn,Zu];refine Fun.of (LN (by simp) ?_) rfl rfl
   conv=>whnf
   repeat' (first|(refine gC ?_;first|refine cN ?_|refine gD (cJ ?_))|refine af.nrm ?_)<;>conv=>whnf
  rw[decide_eq_true hn,Za]
  by_cases hl:(g.args.length:Int)=arG g.op
  .rw [decide_eq_true hl,Za];refine Fun.of (LN (by simp) ?_) rfl rfl
   conv=>whnf
   repeat' (first|(refine gG ?_;first|refine aM.fn (ha) ?_|refine aM.fn (hr) ?_)|(refine gC ?_;(refine gD ?_;first|refine cI ?_|refine cJ ?_))|refine gL (.map ?_)|refine af.nrm ?_)<;>conv=>whnf
  .rw [decide_eq_false hl,Zu];refine Fun.of (LN (by simp) ?_) rfl rfl
   conv=>whnf
   repeat' (first|refine gG (aM.fn (ha) ?_)|(refine gC ?_;(refine gD ?_;first|refine cI ?_|refine cJ ?_))|refine gL (.map ?_)|refine af.nrm ?_)<;>conv=>whnf
 .rw [h2] at ha;rw[decide_eq_false h1,Zu];refine Fun.of (LN (by simp) ?_) rfl rfl
  conv=>whnf
  repeat' (first|refine gG (aM.fn (ha) ?_)|(refine gC ?_;first|refine cN ?_|(refine gD ?_;first|refine cI ?_|refine cJ ?_)|refine aq.dec (λhc=>?_) (λhc=>?_))|refine gL (.map ?_)|refine af.nrm ?_)<;>conv=>whnf
end Go.CK
namespace Go.CK
open Go.AM Go.Proofs
def OZ(own:List Box):AX->St->Prop
 |.ret,s=>vK s own
 |_,_=>False
theorem px.first{α:Type}{P:Program}{g:Opd}{ps:List Nat}{a b:RC}{s:St}{Q:AX->St->Prop}(enc:α->List AV)(l:List α)(s0:St)(own1:List Box){gf:FuncId}{lb:List AV}(hi:BV P gf (lb.map AV.norm) (l.map enc))(hbd:dI P gf=true)(hw:ah s s0)(hg:s0.ev g=.fn (.func gf) [] lb)
  (hlen:∀y,(enc y).length=ps.length) (hy:∀y,(enc y).all (λv=>v.lt 0)=true) (hb0:aj s0.bs.length s0.bs=true) (hb1:own1.length=s0.bs.length) (hb2:aj s0.bs.length own1=true)
  (round:∀x y rest,y::rest=l->(⟨lF (eF s0.env) ps (enc y),s0.bs++[.loop x],s0.bs.length+1⟩:St).fo true λs1=>a.gp P true s1 (Q6 x s0.bs.length λs2=>b.gp P true s2 (OZ own1)))
  (done:l=[]->(⟨s0.env,s0.bs++[.dead],s0.lo⟩:St).fo true λs'=>Q .normal s') (stop:l≠[]->(⟨s0.env,own1++[.dead],s0.lo⟩:St).fo true λs'=>Q .ret s'):px P g ps a b s Q:=by
 refine px.byW s0 hw hg hbd hi (λy hyl=>?_) (λpre own=>pre=[]/\own=s0.bs) (λe own=>e=.ret/\own=own1/\l≠[]) (λpre own h=>?_) (λe own h=>?_) (λy hyl=>?_) ⟨rfl,rfl⟩ (λpre own h=>?_) (λe own h=>?_) ?_ (λown h=>?_) (λe own h=>?_)
 .obtain ⟨z,_,rfl⟩:=Zk.1 hyl;exact hlen z
 .obtain ⟨_,rfl⟩:=h;exact hb0
 .obtain ⟨_,rfl,_⟩:=h;rw[hb1];exact hb2
 .obtain ⟨z,_,rfl⟩:=Zk.1 hyl;exact hy z
 .rw [h.2]
 .rw [h.2.1];exact hb1
 .rintro x pre y rest own hxs ⟨rfl,rfl⟩
  cases l with
  |nil=>cases hxs
  |cons z q=>
   rw[Ym,ZP] at hxs;obtain rfl:=(List.cons.inj hxs).1;have hr:=round x z q rfl;rw[St.c9] at hr;refine RC.wp_mono (λe s1 h1=>?_) (RC.kU hr)
   cases e with
   |normal=>
    refine⟨h1.h,?_⟩;have h3:=h1.k;rw[St.c9] at h3;refine RC.wp_mono (λe s3 h4=>?_) (RC.kU h3)
    cases e with
    |ret=>
     obtain⟨lo,h5⟩:=h4.out
     exact⟨_,_,h5,rfl,rfl,rfl,by simp⟩
    |normal=>exact h4.elim
    |exit id=>exact h4.elim
   |ret=>exact h1.elim
   |exit id=>exact h1.elim
 .obtain ⟨h1,rfl⟩:=h
  have:l=[]:=by cases l with
   |nil=>rfl
   |cons z q=>cases h1
  exact done this
 .obtain ⟨rfl,rfl,hl⟩:=h;exact stop hl
theorem Nb(t:Tm):Fun Tryz.prog 59 [t.avw] (.bool (decide (t.vs=[]))):=by
 have hiter:BV Tryz.prog 131 [.ept [.sl .no [t.avw]]] (t.vs.map λn=>[c7 n]):=by
  have h:=Ff [t];rw[show Tm.vss [t]=t.vs by simp[Tm.vss]] at h
  simp only[slA,ZP,Yd,Tm.nK] at h;exact h
 refine Fun.of (Nu (by simp) ?_) rfl rfl
 conv=>whnf
 repeat' refine gF (ab.fn (HA) ?_)<;>conv=>whnf
 refine px.first (λn:Int=>[c7 n]) t.vs ⟨[(2,.ptr 1 0),(5,.fn (.func 131) [] [.ept [.sl .no [t.avw]]])],[.cells [.int .i64 t.kind,.int .i64 t.num,.str t.name,.sl .no (t.args.map Tm.av)],.cells [.bool false]],0⟩ [.cells [.int .i64 t.kind,.int .i64 t.num,.str t.name,.sl .no (t.args.map Tm.av)],.cells [.bool false]] hiter (by kernel_rfl) ?_ rfl (λ_=>rfl) (λ_=>rfl) rfl rfl rfl ?_ ?_ ?_
 .exact au
 .intro x y rest hxs
  conv=>whnf
  repeat' refine gA (aP ?_)<;>conv=>whnf
  refine vK.by ?_ rfl rfl rfl
  conv=>whnf
  repeat' (first|refine xB ?_|(refine BxN.mk ?_ ?_;(focus (simp[];done)))|exact True.intro)<;>conv=>whnf
 .intro h
  conv=>whnf
  skip;rw[h]
  conv=>whnf
  repeat' refine af.nrm ?_<;>conv=>whnf
  all_goals rfl
 .intro h
  conv=>whnf
  skip;rw[decide_eq_false h]
  conv=>whnf
  repeat' refine af.nrm ?_<;>conv=>whnf
theorem MC{t:Tm}(hb:t.vs.length<=100000):Fun Tryz.prog 64 [t.avw] (.bool (decide (t.vs=[]))):=by
 have hv:=Cf hb
 have he:decide (t.vs=[])=decide (((dL t.vs).length:Int)=0):=by
  rw[decide_eq_decide];constructor
  .intro h;rw[h];rfl
  .intro h
   cases hq:t.vs with
   |nil=>rfl
   |cons x r=>
    have:x∈dL t.vs:=by unfold dL;rw[NM];exact .inr (by rw[hq];simp)
    have h2:(dL t.vs).length=0:=by omega
    rw[YW.1 h2] at this;cases this
 rw[he];refine Fun.of (Mq (by simp) ?_) rfl rfl
 conv=>whnf
 repeat' (first|refine gF (ab.fn (hv) ?_)|refine gL (.map ?_)|refine af.nrm ?_)<;>conv=>whnf
 all_goals rfl
def Gl.test(g:Gl):Bool:=decide (5<=g.op/\g.op<=12)&&g.right
theorem Ni(g:Gl)(hl:g.args.length<=9223372036854775807):Fun Tryz.prog 56 [g.av] (.bool g.test):=by
 have hr:=M9 g hl;unfold Gl.test
 by_cases h:5<=g.op/\g.op<=12
 .rw [decide_eq_true h,Za];refine Fun.of (Nc (by simp) ?_) rfl rfl
  conv=>whnf
  repeat' (first|refine gF (ab.fn (hr) ?_)|refine gC (gD (cI ?_))|refine af.nrm ?_)<;>conv=>whnf
 .rw [decide_eq_false h,Zu];refine Fun.of (Nc (by simp) ?_) rfl rfl
  conv=>whnf
  repeat' (first|(refine gC ?_;first|refine cN ?_|(refine gD ?_;first|refine cI ?_|refine cJ ?_)|refine aq.le (λhc=>?_) (λhc=>?_))|refine af.nrm ?_)<;>conv=>whnf
  all_goals rfl
theorem Ov(g:Gl)(hN:Tm.ai g.args<=100000000)(hl:g.args.length<=4000000000):Fun Tryz.prog 62 [g.av] (.bool g.test):=by
 have hr:=MP g hN hl;unfold Gl.test
 by_cases h:5<=g.op/\g.op<=12
 .rw [decide_eq_true h,Za];refine Fun.of (L0 (by simp) ?_) rfl rfl
  conv=>whnf
  repeat' (first|refine gF (ab.fn (hr) ?_)|refine gC (gD (cI ?_))|refine af.nrm ?_)<;>conv=>whnf
 .rw [decide_eq_false h,Zu];refine Fun.of (L0 (by simp) ?_) rfl rfl
  conv=>whnf
  repeat' (first|(refine gC ?_;first|refine cN ?_|(refine gD ?_;first|refine cI ?_|refine cJ ?_)|refine aq.le (λhc=>?_) (λhc=>?_))|refine af.nrm ?_)<;>conv=>whnf
  all_goals rfl
mutual
def Tm.Mm:Tm->Bool
 |.mk k _ s l=>if k=0\/k=1 then true else if k=2 then eR s&&(decide (l.length=2)&&Tm.Nx l) else false
def Tm.Nx:List Tm->Bool
 |[]=>true
 |t::r=>t.Mm&&Tm.Nx r
end
theorem Oj{t:Tm}(h:t.kind=0\/t.kind=1):t.Mm=true:=by
 obtain⟨k,n,s,l⟩:=t;rw[Tm.Mm];exact if_pos h
theorem OD{t:Tm}(h:t.kind=2):t.Mm=(eR t.name&&(decide (t.args.length=2)&&Tm.Nx t.args)):=by
 obtain⟨k,n,s,l⟩:=t;have h:k=2:=h;rw[Tm.Mm,if_neg (by omega),if_pos h];rfl
theorem OC{t:Tm}(h:¬(t.kind=0\/t.kind=1))(h2:¬t.kind=2):t.Mm=false:=by
 obtain⟨k,n,s,l⟩:=t;rw[Tm.Mm];exact(if_neg h).trans (if_neg h2)
theorem NI(t:Tm):Fun Tryz.prog 133 [t.avw] (.bool t.Mm):=by
 induction t using Tm.bD with
 |h k i s l ih=>
 generalize ha:Tm.mk k i s l=t;replace ih:=ih;have ih2:∀x∈t.args,Fun Tryz.prog 133 [x.avw] (.bool x.Mm):=by subst ha;exact ih
 clear ha ih
 by_cases h01:t.kind=0\/t.kind=1
 .rw [Oj h01];refine Fun.of (LW (by simp) ?_) rfl rfl
  conv=>whnf
  repeat' (first|(refine gC ?_;first|refine gD (cI ?_)|refine aq.dec (λhc=>?_) (λhc=>?_))|refine af.nrm ?_)<;>conv=>whnf
 by_cases h2:t.kind=2
 rotate_left
 .rw [OC h01 h2];refine Fun.of (LW (by simp) ?_) rfl rfl
  conv=>whnf
  repeat' (first|refine gC (gD (cJ ?_))|refine af.nrm ?_)<;>conv=>whnf
 rw[OD h2];have hop:=ID t.name
 cases ho:eR t.name with
 |false=>
  rw[ho] at hop;refine Fun.of (LW (by simp) ?_) rfl rfl
  conv=>whnf
  repeat' (first|refine gF (ab.fn (hop) ?_)|(refine gC ?_;first|refine cN ?_|(refine gD ?_;first|refine cI ?_|refine cJ ?_))|refine af.nrm ?_)<;>conv=>whnf
  all_goals rfl
 |true=>
 rw[ho] at hop
 by_cases hl:t.args.length=2
 rotate_left
 .rw [decide_eq_false hl];refine Fun.of (LW (by simp) ?_) rfl rfl
  conv=>whnf
  repeat' (first|refine gF (ab.fn (hop) ?_)|(refine gC ?_;first|refine cY ?_|refine cN ?_|(refine gD ?_;first|refine cI ?_|refine cJ ?_))|refine gL (.map ?_)|refine af.nrm ?_)<;>conv=>whnf
  all_goals rfl
 rw[decide_eq_true hl]
 obtain⟨x,y,hxy⟩:∃x y,t.args=[x,y]:=by
  match hq:t.args,hl with
  |[x,y],_=>exact⟨x,y,rfl⟩
 have hx:=ih2 x (by rw[hxy];simp)
 have hy:=ih2 y (by rw[hxy];simp)
 have h0:t.args[0]? =some x:=by rw[hxy];rfl
 have h1:t.args[1]? =some y:=by rw[hxy];rfl
 have hns:Tm.Nx t.args=(x.Mm&&y.Mm):=by rw[hxy];simp[Tm.Nx]
 rw[hns];clear hxy;simp only[Za]
 cases hbx:x.Mm with
 |false=>
  rw[hbx] at hx;refine Fun.of (LW (by simp) ?_) rfl rfl
  conv=>whnf
  repeat' (first|(refine gF ?_;first|refine ab.fn (hop) ?_|refine ab.fn (hx) ?_)|(refine gC ?_;first|refine cY ?_|refine cN ?_|(refine gD ?_;first|refine cI ?_|refine cJ ?_))|refine gL (.map ?_)|refine gI (gT (iA ?_))|refine af.nrm ?_)<;>conv=>whnf
  all_goals rfl
 |true=>
 rw[hbx] at hx;rw[Za];refine Fun.of (LW (by simp) ?_) rfl rfl
 conv=>whnf
 repeat' (first|(refine gF ?_;first|refine ab.fn (hop) ?_|refine ab.fn (hx) ?_|refine ab.fn (hy) ?_)|(refine gC ?_;first|refine cY ?_|(refine gD ?_;first|refine cI ?_|refine cJ ?_))|refine gL (.map ?_)|refine gI (gT (iA ?_))|refine af.nrm ?_)<;>conv=>whnf
 all_goals rfl
theorem Nw(t:Tm):Fun Tryz.prog 101 [t.avw] (.bool t.Mm):=by
 induction t using Tm.bD with
 |h k i s l ih=>
 generalize ha:Tm.mk k i s l=t;replace ih:=ih;have ih2:∀x∈t.args,Fun Tryz.prog 101 [x.avw] (.bool x.Mm):=by subst ha;exact ih
 clear ha ih
 by_cases h01:t.kind=0\/t.kind=1
 .rw [Oj h01];refine Fun.of (uA (by simp) ?_) rfl rfl
  conv=>whnf
  repeat' (first|(refine gC ?_;first|refine cY ?_|(refine gD ?_;first|refine cI ?_|refine cJ ?_)|refine aq.dec (λhc=>?_) (λhc=>?_))|refine af.nrm ?_)<;>conv=>whnf
 by_cases h2:t.kind=2
 rotate_left
 .rw [OC h01 h2];refine Fun.of (uA (by simp) ?_) rfl rfl
  conv=>whnf
  repeat' (first|(refine gC ?_;first|refine cN ?_|refine gD (cJ ?_))|refine af.nrm ?_)<;>conv=>whnf
 rw[OD h2];have hop:=GG t.name
 cases ho:eR t.name with
 |false=>
  rw[ho] at hop;refine Fun.of (uA (by simp) ?_) rfl rfl
  conv=>whnf
  repeat' (first|refine gF (ab.fn (hop) ?_)|(refine gC ?_;first|refine cN ?_|(refine gD ?_;first|refine cI ?_|refine cJ ?_))|refine af.nrm ?_)<;>conv=>whnf
  all_goals rfl
 |true=>
 rw[ho] at hop
 by_cases hl:t.args.length=2
 rotate_left
 .rw [decide_eq_false hl];refine Fun.of (uA (by simp) ?_) rfl rfl
  conv=>whnf
  repeat' (first|refine gF (ab.fn (hop) ?_)|(refine gC ?_;first|refine cY ?_|refine cN ?_|(refine gD ?_;first|refine cI ?_|refine cJ ?_))|refine gL (.map ?_)|refine af.nrm ?_)<;>conv=>whnf
  all_goals rfl
 rw[decide_eq_true hl]
 obtain⟨x,y,hxy⟩:∃x y,t.args=[x,y]:=by
  match hq:t.args,hl with
  |[x,y],_=>exact⟨x,y,rfl⟩
 have hx:=ih2 x (by rw[hxy];simp)
 have hy:=ih2 y (by rw[hxy];simp)
 have h0:t.args[0]? =some x:=by rw[hxy];rfl
 have h1:t.args[1]? =some y:=by rw[hxy];rfl
 have hns:Tm.Nx t.args=(x.Mm&&y.Mm):=by rw[hxy];simp[Tm.Nx]
 rw[hns];clear hxy;simp only[Za]
 cases hbx:x.Mm with
 |false=>
  rw[hbx] at hx;refine Fun.of (uA (by simp) ?_) rfl rfl
  conv=>whnf
  repeat' (first|(refine gF ?_;first|refine ab.fn (hop) ?_|refine ab.fn (hx) ?_)|(refine gC ?_;first|refine cY ?_|refine cN ?_|(refine gD ?_;first|refine cI ?_|refine cJ ?_))|refine gL (.map ?_)|refine gI (gT (iA ?_))|refine af.nrm ?_)<;>conv=>whnf
  all_goals rfl
 |true=>
 rw[hbx] at hx;rw[Za];refine Fun.of (uA (by simp) ?_) rfl rfl
 conv=>whnf
 repeat' (first|(refine gF ?_;first|refine ab.fn (hop) ?_|refine ab.fn (hx) ?_|refine ab.fn (hy) ?_)|(refine gC ?_;first|refine cY ?_|(refine gD ?_;first|refine cI ?_|refine cJ ?_))|refine gL (.map ?_)|refine gI (gT (iA ?_))|refine af.nrm ?_)<;>conv=>whnf
 all_goals rfl
end Go.CK
