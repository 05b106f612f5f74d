/-
  Texts of this aQ joined (wip/gen/bundle.py),those declarations only that are needed:UnE UnS UnF UnN. By an AI agent.
-/
import Derived.Test.YtahnpgfkkngimaaGreatBax
import Derived.Lib.RowBridge
import Derived.BigQuiet
import Derived.StillTailTactics
import Derived.Deep.RegionHeld3
import Derived.KernelRfl
set_option linter.unusedSimpArgs false
set_option linter.unusedVariables false
set_option maxRecDepth 100000
namespace Go.CK
open Go.AM Go.Proofs
def az(n:Int):Tm:=.mk 1 n ⟨⟨[]⟩⟩ []
theorem oM(n:Int):Fun Tryz.prog 81 [.int .i64 n] (az n).avw:=by
 refine Fun.of (Ah (by simp) ?_) rfl rfl
 conv=>whnf
 repeat' refine af.nrm ?_<;>conv=>whnf
 exact rfl
def tmA:Option Tm->AV
 |none=>.agg [.int .i64 0,.int .i64 0,.str ⟨⟨[]⟩⟩,.sl .full []]
 |some t=>t.avw
theorem bp:Plain tmA 4:=by
 refine⟨by omega,λx=>?_,λx c h=>?_,λx c h=>?_⟩
 .cases x<;>rfl
 .cases x<;>(simp[tmA,Tm.avw,AV.cells] at h;rcases h with rfl|rfl|rfl|rfl<;>rfl)
 .cases x<;>(simp[tmA,Tm.avw,AV.cells] at h;rcases h with rfl|rfl|rfl|rfl<;>rfl)
theorem j0(l:List Tm):(l.map some).map tmA=l.map Tm.av:=by
 rw[List.map_map];refine List.map_congr_left λt _=>?_;exact(Tm.nK t).symm
theorem zH{acc:List Tm}{n j:Nat}(h:acc.length=j)(hj:j<n):(acc.map some++List.replicate (n-j) none)[j]? =some none:=by
 rw[ZZ (by rw[ZF];omega),ZF,h,XY,List.getElem?_replicate,if_pos (by omega)]
theorem Im{acc:List Tm}{n j:Nat}{t:Tm}(h:acc.length=j)(hj:j<n):(acc.map some++List.replicate (n-j) none).set j (some t)=(acc++[t]).map some++List.replicate (n-(j+1)) none:=by
 rw[Xc _ _ (by rw[ZF];omega),ZF,h,XY]
 obtain⟨k,hk⟩:∃k,n-j=k+1:=⟨n-j-1,by omega⟩
 rw[hk,show n-(j+1)=k by omega,List.replicate_succ,List.set_cons_zero,Zt,Zg];rfl
def uS(N:Nat)(M:Gr->Nat->Option (Gr×Tm)):Gr->List Nat->Option (Gr×List Tm)
 |g,[]=>some (g,[])
 |g,x::xs=>match ct N g.up x with
  |none=>none
  |some (u,r)=>match M {g with up:=u} r with
   |none=>none
   |some (g2,t)=>if g2.up.length=g.up.length then match uS N M g2 xs with
    |none=>none
    |some (g3,l)=>some (g3,t::l)
    else none
def lkD(l:List (Int×Int))(n:Int):Int:=match lk l n with
 |none=>0
 |some v=>v
def mB(N:Nat):Nat->Gr->Nat->Option (Gr×Tm)
 |0,_,_=>none
 |f+1,g,r=>match lk g.shape r with
  |none=>some (g,az (lkD g.least r))
  |some k=>match g.nodes[k]? with
   |none=>none
   |some d=>if d.t.args.length=0 then some (g,d.t) else if d.kids.length=d.t.args.length/\d.kids.length<=4000000000 then match uS N (mB N f) g d.kids with
    |none=>none
    |some (g2,l)=>some (g2,.mk d.t.kind d.t.num d.t.name l)
    else none
def I5(g2:Gr)(t:Tm)(cap:Nat)(r:AV)(bs':List Box):Prop:=r=t.avw/\bs'=g2.bs cap++[.cells [.int .i64 t.kind,.int .i64 t.num,.str t.name,.sl .no (t.args.map Tm.av)]]
set_option maxHeartbeats 2000000 in
theorem E7{N:Nat}:∀(f:Nat) {g:Gr} {r:Nat} {g2:Gr} {t:Tm} {cap:Nat},mB N f g r=some (g2,t)->g.up.length<=cap->AM.Sem Tryz.prog 150 [.ptr 0 0,.int .i64 (r:Int)] (g.bs cap) (I5 g2 t cap):=by
 intro f
 induction f with
 |zero=>intro g r g2 t cap h;cases h
 |succ f ih=>
  intro g r g2 t cap h hcap;rw[mB] at h;refine kD (by simp) ?_
  cases hs:lk g.shape r with
  |none=>
   rw[hs] at h;cases h
   cases hl:lk g.least r with
   |none=>
    rw[show lkD g.least r=0 by rw[lkD,hl]]
    conv=>whnf
    repeat' (first|refine gF (ab.fn (oM _) ?_)|(refine gC ?_;first|refine cN ?_|refine .not ?_)|refine gMp (mA ?_)|refine gMs (mEn ?_))<;>conv=>whnf
    refine af.lay [some 0,some 1,some 2,some 3,some 4,some 5,some 6] oko ?_
    conv=>whnf
    repeat' refine af.nrm ?_<;>conv=>whnf
    exact⟨rfl,rfl⟩
   |some v=>
    rw[show lkD g.least r=v by rw[lkD,hl]]
    conv=>whnf
    repeat' (first|refine gF (ab.fn (oM _) ?_)|(refine gC ?_;first|refine cN ?_|refine .not ?_)|refine gMp (mA ?_)|(refine gMs ?_;first|refine mEs ?_|refine mEn ?_))<;>conv=>whnf
    refine af.lay [some 0,some 1,some 2,some 3,some 4,some 5,some 6] oko ?_
    conv=>whnf
    repeat' refine af.nrm ?_<;>conv=>whnf
    exact⟨rfl,rfl⟩
  |some k=>
   rw[hs] at h;simp only at h
   cases hd:g.nodes[k]? with
   |none=>rw[hd] at h;cases h
   |some d=>
    rw[hd] at h;simp only at h
    by_cases h0:d.t.args.length=0
    .rw [if_pos h0] at h;cases h
     conv=>whnf
     repeat' (first|(refine gC ?_;first|refine cY ?_|refine .not ?_|refine gD (cI ?_))|refine gL (.map ?_)|refine gI (gM (iE ?_))|refine gMp (mA ?_)|refine gMs (mEs ?_))<;>conv=>whnf
     refine af.lay [some 0,some 1,some 2,some 3,some 4,some 5,some 6] oko ?_
     conv=>whnf
     repeat' refine af.nrm ?_<;>conv=>whnf
     exact⟨rfl,rfl⟩
    .rw [if_neg h0] at h
     by_cases hk:d.kids.length=d.t.args.length/\d.kids.length<=4000000000
     rotate_left
     .rw [if_neg hk] at h;cases h
     rw[if_pos hk] at h;obtain⟨hk1,hk2⟩:=hk
     cases hL:uS N (mB N f) g d.kids with
     |none=>rw[hL] at h;cases h
     |some gl=>
      obtain⟨g3,l⟩:=gl;rw[hL] at h;cases h
      conv=>whnf
      repeat' (first|(refine gC ?_;first|refine cY ?_|refine .not ?_|refine gD (cJ ?_))|refine gL (.map ?_)|refine gI (gM (iE ?_))|refine gMp (mA ?_)|refine gMs (mEs ?_))<;>conv=>whnf
      refine .row bp none (by omega) ?_
      conv=>whnf
      repeat' (first|refine gL (.map ?_)|refine gI (gM (iE ?_)))<;>conv=>whnf
      simp only[Ys];refine aw.by (fb:=true) (λ_ (q:Nat×Gr×List Tm)=>⟨[(0,.ptr 0 0),(4,.ptr 6 0),(7,.ptr 7 0),(8,.bsl 8 d.t.args.length d.t.args.length),(53,.sl .no (d.kids.map bG)),(54,.int .i64 (d.kids.length:Int)),(55,.int .i64 (q.1:Int))],q.2.1.bs cap++[.cells [.int .i64 0,.int .i64 0,.str ⟨⟨[]⟩⟩,.sl .full []],.cells [.int .i64 d.t.kind,.int .i64 d.t.num,.str d.t.name,.sl .no (d.t.args.map Tm.av)],aL tmA 4 d.t.args.length (q.2.2.map some++List.replicate (d.t.args.length-q.1) none)],6⟩) (λq=>q.1<=d.kids.length/\q.2.2.length=q.1/\q.2.1.up.length=g.up.length/\∃l2,uS N (mB N f) q.2.1 (d.kids.drop q.1)=some (g2,l2)/\l=q.2.2++l2) (λq=>d.kids.length-q.1) (0,g,[]) ⟨ZJ _,rfl,rfl,l,hL,rfl⟩ ?_ ?_
      .simp only[Yd,Ym,XL];exact au
      .rintro ⟨j,gj,acc⟩ ⟨q1,q2,q3,l2,q4,q5⟩;dsimp only at q1 q2 q3 q4 q5|-
       by_cases hj:j<d.kids.length
       .obtain ⟨x,hx⟩:∃x,d.kids[j]? =some x:=⟨_,ZA hj⟩;rw[ZH hj,(ZB.1 hx).2,uS] at q4
        cases hr:ct N gj.up x with
        |none=>rw[hr] at q4;cases q4
        |some ur=>
         obtain⟨u,r'⟩:=ur;rw[hr] at q4;simp only at q4;have hul:=dc hr
         cases hm:mB N f {gj with up:=u} r' with
         |none=>rw[hm] at q4;cases q4
         |some gt=>
          obtain⟨g4,t4⟩:=gt;rw[hm] at q4;simp only at q4
          by_cases hg4:g4.up.length=gj.up.length
          rotate_left
          .rw [if_neg hg4] at q4;cases q4
          rw[if_pos hg4] at q4
          cases hL4:uS N (mB N f) g4 (d.kids.drop (j+1)) with
          |none=>rw[hL4] at q4;cases q4
          |some gl4=>
           obtain⟨g5,l5⟩:=gl4;rw[hL4] at q4;cases q4
           conv=>whnf
           repeat' (first|refine gC (gD (cI ?_))|refine gI (gM (iE ?_)))<;>conv=>whnf
           refine ab.ate [0,1,2,3,4,5] (nX hr (by omega)) rfl rfl ?_
           conv=>whnf
           skip;refine ab.ate [0,1,2,3,4,5] (ih (cap:=cap) hm (by show u.length<=cap;omega)) rfl rfl ?_
           conv=>whnf
           repeat' refine gN (nS ?_)<;>conv=>whnf
           refine EsN.elem bp (λx=>by cases x<;>rfl) (x:=none) (y:=some t4) (l:=acc.map some++List.replicate (d.t.args.length-j) none) rfl (by rw[Ys];exact zH q2 (by omega)) rfl ?_
           rw[Ys,Im q2 (by omega)]
           conv=>whnf
           repeat' refine gW (wI ?_)<;>conv=>whnf
           refine⟨(j+1,g4,acc++[t4]),⟨⟨hj,by show (acc++[t4]).length=j+1;rw[ZC,q2];rfl,by show g4.up.length=_;omega,l5,hL4,by rw[q5];simp⟩,by show _-(j+1)<_-j;omega⟩,?_⟩
           dsimp only;refine ah.lay [some 0,some 1,some 2,some 3,some 4,some 5,some 6,some 7,some 8] oko ?_
           conv=>whnf
           exact au
       .obtain rfl:j=d.kids.length:=by omega
        rw[Zj,uS] at q4;cases q4;rw[Zv] at q5;subst q5;rw[hk1,XY,List.replicate_zero,Zv]
        conv=>whnf
        repeat' refine gC (gD (cJ ?_))<;>conv=>whnf
        refine af.lay [some 0,some 1,some 2,some 3,some 4,some 5,some 6,some 8] oko ?_
        conv=>whnf
        refine af.bY bp 6 3 (b:=7) (l:=l.map some) rfl rfl rfl ?_ ?_
        .rw [ZF];omega
        rw[Zl (by rw[ZF];omega),j0]
        conv=>whnf
        refine af.lay [some 0,some 1,some 2,some 3,some 4,some 5,some 6] oko ?_
        conv=>whnf
        repeat' refine af.nrm ?_<;>conv=>whnf
        exact⟨rfl,rfl⟩
end Go.CK
namespace Go.AM
open Go.CK Go.RowKit Go.Proofs
theorem Sem.ofRow{P:Program}{f:FuncId}{vals:List AV}{bs:List Box}{zs:List Int}(hz:zs.length<=lim)(h:∀(E:Entry) (G:Gh) (a0:Act) (w:World) (args:List Value) (lo:Nat),RS E G ⟨[],bs,lo⟩ a0 w->args.length=vals.length->(∀j (hj:j<vals.length) v,args[j]? =some v->RV G.M G.σ bs.length vals[j] v)->Calls P f args.toArray w λe w'=>∃v T,e=.returned v/\w'.ownsRow w.heap.size T 1 v zs.length (zs.map (Value.int .i64))/\Below w.heap.size w w'):Sem P f vals bs λr bs'=>r=slA c7 zs/\bs'=bs:=by
 intro E G a0 w args lo hs hl hv;refine(h E G a0 w args lo hs hl hv).mono ?_;rintro e w' ⟨v,T,rfl,hrow,hb⟩;have h0:=hs.w6 (cC G bs w 1) ⟨#[v],[]⟩ (Fr.refl _ _ _) rfl bs.length rfl (ZG _) (λ_ _=>rfl) (λB hB=>.inl hB) rfl;have hMlt:∀B o u,G.M B o=some u->B<w.heap.size:=λB o u hu=>Hp.lt hs.ok hu
 have hle:G.M.le (G.M.plus w w'):=λB o u hu=>by
  unfold Hp.plus;rw[if_neg (by have:=hMlt B o u hu;omega)];exact hu
 have hok:(G.M.plus w w').le (Hp.of w'):=λB o u hu=>by
  unfold Hp.plus at hu;split at hu
  .exact hu
  .exact (hb.cell (p:=⟨B,o,none⟩) (hMlt B o u hu)).trans (hs.ok _ _ _ hu)
 have h1:=h0.grow (M':=G.M.plus w w') (w':=w') ⟨hb.os,hb.tape,hb.output,hb.size,hle,λB hB _=>hb.block B hB,λB hB _ o=>by unfold Hp.plus;rw[if_neg (by omega)]⟩ hok
 refine⟨_,_,_,_,rfl,⟨rfl,rfl⟩,h1.put (k:=0) XF (x:=slA c7 zs) (.flat ?_)⟩;rcases hrow.2 with ⟨rfl,hz0⟩|⟨g,cap,cur,rfl,hg1,hg2,hg3,hg4,hg5,hg6⟩
 .have:zs=[]:=ZL hz0;subst this;exact FV.iT (l:=[]) (B:=0) (off:=0) (sz:=1) (by simp) (ZG _) (ZJ _) (by simp) (λh=>absurd rfl h) (λi hi=>by cases hi)
 .have hel:fO (G.M.plus w w') g 0 1 (zs.map c7):=λi hi=>by
   have hi':i<zs.length:=by simpa using hi
   refine⟨by simp[c7,AV.cells],λj hj=>?_⟩
   have hj0:j=0:=by simp[c7,AV.cells] at hj;omega
   subst hj0;have hlt:i<cur.size:=by omega
   have hcur:cur[i]? =some (.int .i64 zs[i]):=by
    have h1:(cur.toList.take (zs.length*1))[i]? =(zs.map (Value.int .i64))[i]?:=by rw[hg6]
    rw[List.getElem?_take_of_lt (by omega)] at h1
    simpa[hi'] using h1
   refine⟨.int .i64 zs[i],?_,rfl,?_⟩
   .unfold Hp.plus;rw[if_pos hg1];simp only[World.cell?,hg2];simpa using hcur
   .simp only[YA,c7,AV.cells];exact .int _ _
  have:=FV.iT (M:=G.M.plus w w') (o:=.no) (l:=zs.map c7) (a:=some ⟨g,0,none⟩) (k:=cap) (B:=g) (off:=0) (sz:=1) (by simp) (by simpa using hg3) (by simpa using hz) (by simp) (λ_=>rfl) hel
  rw[ZF] at this;exact this
end Go.AM
namespace Go.CK
open Go.AM Go.RowKit Go.Proofs Go.Maps
def fm(l:List Int):List Int:=l.mergeSort λx y=>decide (x<=y)
theorem IZ{l:List (Int×AV)}:AM.Sem Tryz.prog 149 [.mpt 0] [.mp l] λr bs'=>r=.fn (.func 174) [] [.ptr 1 0]/\bs'=[.mp l,.cells [.mpt 0]]:=by
 refine eo (by simp) ?_
 conv=>whnf
 repeat' refine af.nrm ?_<;>conv=>whnf
 exact⟨rfl,rfl⟩
theorem Ay:∀(l:List (Int×AV)) (i:Nat) (x:MapEntry),x∈cP i l->∃e∈l,x.key=.int .i64 e.1
 |(k,y)::l,i,x,h=>by
  simp only[cP,ZI] at h;rcases h with rfl|h
  .exact ⟨(k,y),ZV ..,rfl⟩
  .obtain ⟨e,h1,h2⟩:=Ay l (i+1) x h
   exact⟨e,ZQ _ h1,h2⟩
 |[],i,x,h=>by simp[cP] at h
theorem re:∀(l:List (Int×AV)) (i:Nat),(cP i l).map (·.born)=List.range' i l.length
 |[],i=>rfl
 |(k,y)::l,i=>by simp only[cP,ZP,re l (i+1),ZX,Xe]
theorem xw:∀(l:List (Int×AV)) (i:Nat),(cP i l).map (·.key)=l.map λe=>Value.int .i64 e.1
 |[],i=>rfl
 |(k,y)::l,i=>by simp only[cP,ZP,xw l (i+1)]
theorem iV:∀(l:List (Int×AV)) (i:Nat),(cP i l).length=l.length
 |[],i=>rfl
 |(k,y)::l,i=>by simp only[cP,ZX,iV l (i+1)]
def l7(v:Value):Option (DataW Unit×List MemPlace):=some (.lit (.bool true),[])
theorem Ho{P:Program}{k:TypeId}(hk:P.underlying k=some (.int .i64)){l:List (Int×AV)}(hl:l.length<=maxLen)(hd:(l.map (·.1)).Nodup)(hi:∀e∈l,bW e.1):Go.WideElems.Fit P k l7 (cP 0 l).toArray l.length:=by
 refine⟨by simpa[iV] using hl,⟨λx hx=>?_,?_,?_⟩,λx hx=>?_⟩
 .rw [XO] at hx;have:x.born∈(cP 0 l).map (·.born):=YV hx;rw[re,List.mem_range'] at this;obtain⟨i,h1,h2⟩:=this;omega
 .rw [XO,re];exact List.nodup_range' (step:=1)
 .rw [XO,xw];have:l.map (λe=>Value.int .i64 e.1)=(l.map (·.1)).map (Value.int .i64):=by rw[List.map_map];rfl
  rw[this];exact List.Pairwise.map _ (λa b h e=>h (by simpa using e)) hd
 .rw [XO] at hx;obtain⟨e,h1,h2⟩:=Ay _ _ _ hx;obtain⟨key,val,born⟩:=x;simp only at h2;subst h2;exact⟨_,Go.WideElems.rd_mk (keyOf_int_mk hk (hi e h1).wf) rfl⟩
theorem Du{P:Program}{k:TypeId}(hk:P.underlying k=some (.int .i64)):∀(l:List (Int×AV)) (i:Nat),(∀e∈l,bW e.1)->((cP i l).map (Go.WideElems.rg P k l7)).map (λp=>Go.intOf p.1)=l.map (·.1)
 |[],i,_=>rfl
 |(n,y)::l,i,h=>by
  simp only[cP,ZP];rw[Du hk l (i+1) λe he=>h e (ZQ _ he)];have:=Go.WideElems.rg_of (Go.WideElems.rd_mk (P:=P) (k:=k) (R:=l7) (born:=i) (val:=vOf y) (keyOf_int_mk hk (h (n,y) (ZV ..)).wf) rfl);rw[this];rfl
set_option maxHeartbeats 1000000 in
theorem Eu{l:List (Int×AV)}(hl:l.length<=300000000)(hd:(l.map (·.1)).Nodup)(hi:∀e∈l,bW e.1):AM.Sem Tryz.prog 148 [.fn (.func 174) [] [.ptr 1 0]] [.mp l,.cells [.mpt 0]] λr bs'=>r=slA c7 (fm (l.map (·.1)))/\bs'=[.mp l,.cells [.mpt 0]]:=by
 have hsl:(fm (l.map (·.1))).length=l.length:=by simp[fm]
 refine Sem.ofRow (by rw[hsl];first|(unfold glim;omega)|(unfold lim;omega)) λE G a0 w args lo hs hal hv=>?_
 obtain⟨v,rfl⟩:∃v,args=[v]:=by
  match args,hal with
  |[v],_=>exact⟨v,rfl⟩
 have h0:=hv 0 (by simp) v rfl
 simp only[YP] at h0;obtain⟨us,vs,rfl,h1,h2,h3,h4⟩:=h0.pf;have hus:us=[]:=ZL (by simpa using h1)
 obtain⟨p,rfl⟩:∃p,vs=[p]:=by
  match vs,h2 with
  |[p],_=>exact⟨p,rfl⟩
 subst hus;have h5:=h4 0 (by simp) p rfl
 simp only[YP] at h5;obtain⟨rfl,hb1⟩:=h5.gg;have hat:(⟨[],[.mp l,.cells [.mpt 0]],lo⟩:St).at (.bx 1 0)=some (.mpt 0):=rfl;have h6:=hs.val _ _ hat;obtain⟨h7,_⟩:=h6.gh;obtain⟨us,T,h8,h9⟩:=hs.box 1 [.mpt 0] rfl
 have hcell:w.cell? ⟨G.σ 1,0,none⟩=some (.map (some (G.σ 0))):=by
  simp only[al,World.cell?,h8] at h7|-;simp only[ZU] at h9;simpa[show 0<us.size by omega] using h7
 obtain⟨h10,_⟩:=hs.sp.ob (G.σ 0) (EL l).obj (.inl ⟨0,EL l,rfl,rfl,rfl⟩);have h10:w.heap[G.σ 0]? =some (.map (cP 0 l).toArray l.length):=h10;have hbl:G.σ 1<w.heap.size:=(Zh.1 h8).1;have hown:w.ownsMap Tryz.prog 3 l7 (G.σ 0) l.length (.map (((cP 0 l).map (Go.WideElems.rg Tryz.prog 3 l7)).foldr DataW.insert [])):=⟨_,_,h10,Ho Tryz.underlying3 (by unfold maxLen;omega) hd hi,by simp[iV],by rw[XO]⟩
 have hperm:(intKeys (.map (((cP 0 l).map (Go.WideElems.rg Tryz.prog 3 l7)).foldr DataW.insert []):DataW Unit)).Perm (l.map (·.1)):=by
  rw[<-Du Tryz.underlying3 l 0 hi];exact(WideShapes.sorted_perm _).map _
 have hsize:Maps.size (.map (((cP 0 l).map (Go.WideElems.rg Tryz.prog 3 l7)).foldr DataW.insert []):DataW Unit)<=300000000:=by
  rw[size_eq,(WideShapes.sorted_perm _).length_eq,ZF,iV];exact hl
 have hseq:SeqGives Fence.wide 2 Tryz.prog 174 #[.pointer (some ⟨G.σ 1,0,none⟩)] encZ _ _ w:=AnyZI.keys_gives (ρ:=Tryz.laysKeys_ren) {Tryz.G9 with} Fence.wide _ trivial rfl (by omega) (G.σ 1) (G.σ 0) _ _ _ hbl hcell hown
 have hsort:AnyZI.SortsIn Tryz.prog Tryz.laysSorted_ren Fence.wide 4:=⟨λblk off cap ss W hH hblk hsz=>callsIn_wide.2 (Any.slices_Sort_int Tryz.AH blk off cap ss W hH hblk hsz),λp cap W=>callsIn_wide.2 (Any.slices_Sort_int_none Tryz.AH p cap W)⟩;have cS:=AnyZI.sorted_in Tryz.CI Fence.wide 5 trivial trivial trivial trivial rfl (by omega) hsort (enters_of Tryz.func173 (by kernel_rfl) rfl) 174 #[.pointer (some ⟨G.σ 1,0,none⟩)] trivial (enters_of Tryz.func174 (by kernel_rfl) rfl) _ _ (by unfold maxLen;omega) (by omega) _ hseq
 refine(callsIn_wide (n:=5)).1 (CallsIn.mono cS ?_);rintro e w' ⟨v,ss,rfl,hS,h11,_,h12⟩;have hss:ss.mergeSort (λx y=>decide (x<=y))=fm (l.map (·.1)):=mergeSort_of_perm_i (hS.trans hperm);rw[hss] at h11;have:ss.length=(fm (l.map (·.1))).length:=by rw[hsl,(hS.trans hperm).length_eq,ZF]
 rw[this] at h11;exact⟨v,_,rfl,h11,h12⟩
end Go.CK
namespace Go.CK
open Go.AM Go.Proofs
theorem DE{β:Type}{enc:β->AV}{l:List (Int×β)}:(mpE enc l).map (·.1)=l.map (·.1):=by
 rw[mpE,List.map_map];rfl
structure Bnd where
 v:Int
 t:Tm
def Bnd.av(x:Bnd):AV:=.agg [.int .i64 x.v,.int .i64 x.t.kind,.int .i64 x.t.num,.str x.t.name,.sl .no (x.t.args.map Tm.av)]
def jh(N f:Nat):List Nat->Gr->Option (Gr×Bool)
 |[],g=>some (g,true)
 |k::ks,g=>match ct N g.up k with
  |none=>none
  |some (u,r)=>match dP N f {g with up:=u} [] r with
   |none=>none
   |some (g2,none)=>some (g2,false)
   |some (g2,some _)=>jh N f ks g2
def fH(N f:Nat):List Int->Gr->List Bnd->Option (Gr×Option (List Bnd))
 |[],g,out=>some (g,some out)
 |v::vs,g,out=>match lk g.vars v with
  |none=>none
  |some k=>match ct N g.up k with
   |none=>none
   |some (u,r)=>if lk g.shape r=none/\lkD g.least r=v then fH N f vs {g with up:=u} out else
    match lk g.known r with
    |none=>none
    |some m=>if 200<m.1\/20<m.2 then some ({g with up:=u},none) else
     match mB N f {g with up:=u} r with
     |none=>none
     |some (g2,t)=>if g2.up.length=g.up.length then fH N f vs g2 (out++[⟨v,t⟩]) else none
def fQ(N f:Nat)(g:Gr):Option (List Bnd×Int):=match jh N f (List.range g.nodes.length) g with
 |none=>none
 |some (_,false)=>some ([],13)
 |some (g2,true)=>match fH N f (fm (g2.vars.map (·.1))) g2 [] with
  |none=>none
  |some (_,none)=>some ([],6)
  |some (_,some out)=>some (out,0)
structure pz(g g2:Gr):Prop where
 nodes:g2.nodes=g.nodes
 vars:g2.vars=g.vars
 shape:g2.shape=g.shape
 least:g2.least=g.least
 up:g2.up.length=g.up.length
theorem pz.refl(g:Gr):pz g g:=⟨rfl,rfl,rfl,rfl,rfl⟩
theorem pz.trans{a b c:Gr}(h:pz a b)(k:pz b c):pz a c:=⟨k.nodes.trans h.nodes,k.vars.trans h.vars,k.shape.trans h.shape,k.least.trans h.least,k.up.trans h.up⟩
theorem pz.root{N:Nat}{g:Gr}{k r:Nat}{u:List Nat}(h:ct N g.up k=some (u,r)):pz g {g with up:=u}:=⟨rfl,rfl,rfl,rfl,dc h⟩
theorem o8{N:Nat}{M:Gr->Nat->Option (Gr×Option (Int×Int))}(hM:∀{g x g2 m},M g x=some (g2,m)->pz g g2):∀{xs:List Nat} {g:Gr} {m:Int×Int} {g2 r},ng N M g xs m=some (g2,r)->pz g g2
 |[],g,m,g2,r,h=>by cases h;exact .refl _
 |x::xs,g,m,g2,r,h=>by
  rw[ng] at h;split at h
  .cases h
  .rename_i u r' hr;split at h
   .cases h
   .rename_i g3 h3;cases h;exact(pz.root hr).trans (hM h3)
   .rename_i g3 c h3;split at h
    .exact ((pz.root hr).trans (hM h3)).trans (o8 hM h)
    .cases h
theorem o9{N:Nat}:∀{f:Nat} {g:Gr} {busy:List Int} {r:Nat} {g2 m},dP N f g busy r=some (g2,m)->pz g g2
 |0,g,busy,r,g2,m,h=>by cases h
 |f+1,g,busy,r,g2,m,h=>by
  rw[dP] at h;split at h
  .cases h;exact .refl _
  .split at h
   .cases h;exact .refl _
   .split at h
    .cases h;exact⟨rfl,rfl,rfl,rfl,rfl⟩
    .split at h
     .cases h
     .split at h
      rotate_left
      .cases h
      split at h
      .cases h
      .rename_i h2;cases h;exact o8 (M:=λg x=>dP N f g (busy++[(r:Int)]) x) (λ{g x g2 m} h=>o9 (f:=f) h) h2
      .rename_i h2;cases h;have h3:=o8 (M:=λg x=>dP N f g (busy++[(r:Int)]) x) (λ{g x g2 m} h=>o9 (f:=f) h) h2;exact⟨h3.1,h3.2,h3.3,h3.4,h3.5⟩
set_option maxHeartbeats 4000000 in
theorem Ew{N f:Nat}{g:Gr}{cap:Nat}{out:List Bnd}{e:Int}(h:fQ N f g=some (out,e))(hcap:g.up.length<=cap)(hn:g.nodes.length<=4000000000)(hv1:g.vars.length<=300000000)(hv2:(g.vars.map (·.1)).Nodup)(hv3:∀e∈g.vars,bW e.1):AM.Sem Tryz.prog 115 [.ptr 0 0] (g.bs cap) λr bs'=>r=.tup [.sl .no (out.map Bnd.av),.int .i64 e]/\∃g2:Gr,bs'=g2.bs cap:=by
 refine kC (by simp) ?_
 rw[fQ] at h
 cases hM:jh N f (List.range g.nodes.length) g with
 |none=>rw[hM] at h;cases h
 |some gb=>
  obtain⟨gm,bm⟩:=gb;rw[hM] at h
  conv=>whnf
  repeat' refine gL (.map ?_)<;>conv=>whnf
  refine aw.by (fb:=true) (λ_ (q:Nat×Gr×Nat)=>⟨[(0,.ptr 0 0),(4,.mpt 6),(20,.int .i64 (g.nodes.length:Int)),(21,.int .i64 (q.1:Int))],q.2.1.bs cap++[.mq (qB []) q.2.2],6⟩) (λq=>q.1<=g.nodes.length/\jh N f ((List.range g.nodes.length).drop q.1) q.2.1=some (gm,bm)/\pz g q.2.1) (λq=>g.nodes.length-q.1) (0,g,0) ⟨ZJ _,hM,.refl _⟩ ?_ ?_
  .refine ah.JO 6 rfl ?_;refine ah.at_ ?_ rfl
   conv=>whnf
   refine And.intro ?_ ?_<;>conv=>whnf
   all_goals repeat' (first|(refine gV ?_;first|refine vE ?_|refine vI ?_)|refine gX (xB ?_)|exact True.intro)<;>conv=>whnf
   refine .mk rfl (.mk rfl ?_)
   conv=>whnf
   repeat' exact True.intro<;>conv=>whnf
  .rintro ⟨j,gj,cj⟩ ⟨q1,q2,q3⟩;dsimp only at q1 q2 q3|-;have hup:=q3.up
   by_cases hj:j<g.nodes.length
   .rw [ZH (by rw[Yu];exact hj),List.getElem_range,jh] at q2
    cases hr:ct N gj.up j with
    |none=>rw[hr] at q2;cases q2
    |some ur=>
     obtain⟨u,r'⟩:=ur;rw[hr] at q2;simp only at q2;have hul:=dc hr
     cases hm:dP N f {gj with up:=u} [] r' with
     |none=>rw[hm] at q2;cases q2
     |some gm4=>
      obtain⟨g4,m4⟩:=gm4;rw[hm] at q2
      conv=>whnf
      repeat' refine gC (gD (cI ?_))<;>conv=>whnf
      refine ab.ate [0,1,2,3,4,5] (nX hr (by omega)) rfl rfl ?_
      conv=>whnf
      skip;have hcall:=As (N:=N) f (g:={gj with up:=u}) (B:=[]) (c:=cj) (cap:=cap) hm (by show u.length<=cap;omega)
      cases m4 with
      |none=>
       cases q2;cases h;refine ab.at [0,1,2,3,4,5,6] hcall rfl rfl ?_ oko ?_
       .rintro r bs' ⟨rfl,c',rfl⟩;exact⟨rfl,rfl,oko⟩
       rintro rr bs' ⟨hrr,c',rfl⟩;change rr=.tup [.agg [.int .i64 0,.int .i64 0],.bool false] at hrr;subst hrr
       conv=>whnf
       repeat' (refine gC ?_;first|refine cN ?_|refine .not ?_)<;>conv=>whnf
       refine af.lay [some 0,some 1,some 2,some 3,some 4,some 5] oko ?_
       conv=>whnf
       repeat' refine af.nrm ?_<;>conv=>whnf
       exact⟨rfl,_,rfl⟩
      |some m4=>
       simp only at q2;refine ab.at [0,1,2,3,4,5,6] hcall rfl rfl ?_ oko ?_
       .rintro r bs' ⟨rfl,c',rfl⟩;exact⟨rfl,rfl,oko⟩
       rintro rr bs' ⟨hrr,c',rfl⟩;change rr=.tup [.agg [.int .i64 m4.1,.int .i64 m4.2],.bool true] at hrr;subst hrr
       conv=>whnf
       repeat' (first|(refine gC ?_;first|refine cY ?_|refine .not ?_)|refine gW (wI ?_))<;>conv=>whnf
       refine⟨(j+1,g4,c'),⟨⟨hj,q2,q3.trans ((pz.root hr).trans (o9 hm))⟩,by show _-(j+1)<_-j;omega⟩,?_⟩
       dsimp only;refine ah.lay [some 0,some 1,some 2,some 3,some 4,some 5,some 6] oko ?_
       conv=>whnf
       exact au
   .obtain rfl:j=g.nodes.length:=by omega
    rw[Yk (by rw[Yu];exact ZG _),jh] at q2
    cases q2;simp only at h;have hkm:=q3;obtain⟨L,hL⟩:∃L,L=fm (gm.vars.map (·.1)):=⟨_,rfl⟩;have hLl:L.length<=300000000:=by rw[hL];simp only[fm,List.length_mergeSort,ZF,q3.vars];exact hv1
    rw[<-hL] at h
    conv=>whnf
    repeat' refine gC (gD (cJ ?_))<;>conv=>whnf
    refine ab.ate [1] IZ rfl rfl ?_
    conv=>whnf
    skip
    have hso:=Eu (l:=mpE bG gm.vars) (by simp only[mpE,ZF,q3.vars];exact hv1) (by rw[DE,q3.vars];exact hv2) (λe he=>by
     obtain⟨x,hx,rfl⟩:=Zk.1 he;rw[q3.vars] at hx;exact hv3 x hx)
    rw[DE,<-hL] at hso;refine ab.ate [1,7] hso rfl rfl ?_
    conv=>whnf
    repeat' refine gL (.map ?_)<;>conv=>whnf
    cases hR:fH N f L gm [] with
    |none=>rw[hR] at h;cases h
    |some go=>
     obtain⟨gr,ro⟩:=go;rw[hR] at h;refine aw.by (fb:=true) (λ_ (q:Nat×Gr×List Bnd)=>⟨[(0,.ptr 0 0),(8,.sl (.own 5) (q.2.2.map Bnd.av)),(41,.sl .no (L.map c7)),(42,.int .i64 (L.length:Int)),(43,.int .i64 (q.1:Int))],q.2.1.bs cap,6⟩) (λq=>q.1<=L.length/\fH N f (L.drop q.1) q.2.1 q.2.2=some (gr,ro)/\q.2.1.up.length=gm.up.length/\q.2.2.length<=q.1) (λq=>L.length-q.1) (0,gm,[]) ⟨ZJ _,hR,rfl,ZG _⟩ ?_ ?_
     .refine ah.lay [some 0,some 1,some 2,some 3,some 4,some 5] oko ?_
      conv=>whnf
      refine ah.at_ ?_ rfl
      conv=>whnf
      refine And.intro ?_ ?_<;>conv=>whnf
      all_goals repeat' (first|(refine gV ?_;first|refine vE ?_|refine vI ?_|((refine gK ?_;refine vD ?_ ?_);(focus (simp[AV.norm,AV.aD,];done))))|refine gX (xB ?_)|exact True.intro)<;>conv=>whnf
     .rintro ⟨j,gj,oj⟩ ⟨r1,r2,r3,r4⟩;dsimp only at r1 r2 r3 r4|-;have hup:=q3.up
      by_cases hj:j<L.length
      .obtain ⟨v,hv⟩:∃v,L[j]? =some v:=⟨_,ZA hj⟩;rw[ZH hj,(ZB.1 hv).2,fH] at r2
       cases hvk:lk gj.vars v with
       |none=>rw[hvk] at r2;cases r2
       |some k=>
        rw[hvk] at r2;simp only at r2
        cases hr:ct N gj.up k with
        |none=>rw[hr] at r2;cases r2
        |some ur=>
         obtain⟨u,r'⟩:=ur;rw[hr] at r2;simp only at r2;have hul:=dc hr
         conv=>whnf
         repeat' (first|refine gC (gD (cI ?_))|refine gI (gM (iE ?_))|refine gMp (mA ?_)|refine gMs (mEs ?_))<;>conv=>whnf
         refine ab.ate [0,1,2,3,4,5] (nX hr (by omega)) rfl rfl ?_
         by_cases hskip:lk gj.shape r'=none/\lkD gj.least r'=v
         .rw [if_pos hskip] at r2;obtain⟨hsn,hsl⟩:=hskip
          cases hll:lk gj.least r' with
          |none=>
           rw[lkD,hll] at hsl
           conv=>whnf
           repeat' (first|(refine gC ?_;first|refine cN ?_|refine .not ?_|refine gD (cI ?_))|refine gW (wI ?_)|refine gMp (mA ?_)|refine gMs (mEn ?_))<;>conv=>whnf
           refine⟨(j+1,{gj with up:=u},oj),⟨⟨hj,r2,by show u.length=_;omega,by show oj.length<=j+1;omega⟩,by show _-(j+1)<_-j;omega⟩,?_⟩
           dsimp only;refine ah.lay [some 0,some 1,some 2,some 3,some 4,some 5] oko ?_
           conv=>whnf
           exact au
          |some w=>
           rw[lkD,hll] at hsl
           conv=>whnf
           repeat' (first|(refine gC ?_;first|refine cN ?_|refine .not ?_|refine gD (cI ?_))|refine gW (wI ?_)|refine gMp (mA ?_)|(refine gMs ?_;first|refine mEs ?_|refine mEn ?_))<;>conv=>whnf
           refine⟨(j+1,{gj with up:=u},oj),⟨⟨hj,r2,by show u.length=_;omega,by show oj.length<=j+1;omega⟩,by show _-(j+1)<_-j;omega⟩,?_⟩
           dsimp only;refine ah.lay [some 0,some 1,some 2,some 3,some 4,some 5] oko ?_
           conv=>whnf
           exact au
         .rw [if_neg hskip] at r2
          cases hkk:lk gj.known r' with
          |none=>rw[hkk] at r2;cases r2
          |some m=>
           rw[hkk] at r2;simp only at r2
           have hshape:∀{K:Prop},(∀x,lk gj.shape r'=some x->K)->(lk gj.shape r'=none->lk gj.least r'=none->v≠0->K)->(∀w,lk gj.shape r'=none->lk gj.least r'=some w->w≠v->K)->K:=λk1 k2 k3=>by
            cases hs:lk gj.shape r' with
            |some x=>exact k1 x hs
            |none=>
             cases hl:lk gj.least r' with
             |none=>exact k2 hs hl λe=>hskip ⟨hs,by rw[lkD,hl,e]⟩
             |some w=>exact k3 w hs hl λe=>hskip ⟨hs,by rw[lkD,hl];exact e⟩
           by_cases hbig:200<m.1\/20<m.2
           .rw [if_pos hbig] at r2;cases r2;cases h;refine hshape (λx hsx=>?_) (λhsx hlx hv0=>?_) λw hsx hlx hwv=>?_
            all_goals
             by_cases hb1:200<m.1
             .conv=>whnf
              repeat' (first|(refine gC ?_;first|refine cY ?_|refine cN ?_|refine .not ?_|(refine gD ?_;first|refine cI ?_|refine cJ ?_))|refine gMp (mA ?_)|(refine gMs ?_;first|refine mEs ?_|refine mEn ?_))<;>conv=>whnf
              refine af.lay [some 0,some 1,some 2,some 3,some 4,some 5] oko ?_
              conv=>whnf
              repeat' refine af.nrm ?_<;>conv=>whnf
              exact⟨rfl,_,rfl⟩
             .have hb2:20<m.2:=hbig.resolve_left hb1
              conv=>whnf
              repeat' (first|(refine gC ?_;first|refine cY ?_|refine cN ?_|refine .not ?_|(refine gD ?_;first|refine cI ?_|refine cJ ?_))|refine gMp (mA ?_)|(refine gMs ?_;first|refine mEs ?_|refine mEn ?_))<;>conv=>whnf
              refine af.lay [some 0,some 1,some 2,some 3,some 4,some 5] oko ?_
              conv=>whnf
              repeat' refine af.nrm ?_<;>conv=>whnf
              exact⟨rfl,_,rfl⟩
           .rw [if_neg hbig] at r2;have hb1:¬200<m.1:=λe=>hbig (.inl e);have hb2:¬20<m.2:=λe=>hbig (.inr e)
            cases hE:mB N f {gj with up:=u} r' with
            |none=>rw[hE] at r2;cases r2
            |some gt=>
             obtain⟨g4,t4⟩:=gt;rw[hE] at r2;simp only at r2
             by_cases hg4:g4.up.length=gj.up.length
             rotate_left
             .rw [if_neg hg4] at r2;cases r2
             rw[if_pos hg4] at r2;refine hshape (λx hsx=>?_) (λhsx hlx hv0=>?_) λw hsx hlx hwv=>?_
             all_goals
              conv=>whnf
              repeat' (first|(refine gC ?_;first|refine cY ?_|refine cN ?_|refine .not ?_|refine gD (cJ ?_))|refine gMp (mA ?_)|(refine gMs ?_;first|refine mEs ?_|refine mEn ?_))<;>conv=>whnf
              refine ab.ate [0,1,2,3,4,5] (E7 (N:=N) f (g:={gj with up:=u}) (cap:=cap) hE (by show u.length<=cap;omega)) rfl rfl ?_
              conv=>whnf
              repeat' (first|refine gW (wI ?_)|refine gN (nS ?_))<;>conv=>whnf
              refine⟨(j+1,g4,oj++[⟨v,t4⟩]),⟨⟨hj,r2,by show g4.up.length=_;omega,by show (oj++[_]).length<=j+1;rw[ZC,ZU];omega⟩,by show _-(j+1)<_-j;omega⟩,?_⟩
              dsimp only;refine ah.lay [some 0,some 1,some 2,some 3,some 4,some 5] oko ?_
              conv=>whnf
              refine ah.at_ ?_ rfl
              conv=>whnf
              refine And.intro ?_ ?_<;>conv=>whnf
              all_goals repeat' (first|(refine gV ?_;first|refine vE ?_|refine vI ?_|(refine WkN.sl ?_ ?_;(focus (simp[AV.norm,AV.aD,Bnd.av];done))))|refine gX (xB ?_)|exact True.intro)<;>conv=>whnf
      .obtain rfl:j=L.length:=by omega
       rw[Zj,fH] at r2;cases r2;cases h
       conv=>whnf
       repeat' refine gC (gD (cJ ?_))<;>conv=>whnf
       conv=>whnf
       repeat' refine af.nrm ?_<;>conv=>whnf
       exact⟨rfl,_,rfl⟩
end Go.CK
namespace Go.CK
open Go.RowKit Go.Proofs
def bX(c:Nat):Nat:=if 97<=c/\c<=122 then 1 else if (65<=c/\c<=90)\/c=95 then 2 else if 48<=c/\c<=57 then 4 else 0
set_option maxHeartbeats 1000000 in
theorem GK(c:Nat)(w:World):Calls Tryz.prog 176 #[.int .u8 (c:Int)] w λe w'=>e=.returned (.int .u8 (bX c:Int))/\w'=w:=by
 have d:∀(p:Prop) [Decidable p],p->decide p=true:=λp _ h=>decide_eq_true h
 by_cases h1:(97:Int)<=c
 .by_cases h2:(c:Int)<=122
  .have hv:bX c=1:=by unfold bX;rw[if_pos ⟨by omega,by omega⟩]
   rw[hv]
   go_enter Tryz.func176,Tryz.ntmps176
   go_wp2_with fail
   go_ret
   exact⟨rfl,rfl⟩
  .have hv:bX c=0:=by unfold bX;rw[if_neg (by omega),if_neg (by omega),if_neg (by omega)]
   rw[hv];have h3:(65:Int)<=c:=by omega
   have h4:¬(c:Int)<=90:=by omega
   have h5:¬(c:Int)=95:=by omega
   have h6:(48:Int)<=c:=by omega
   have h7:¬(c:Int)<=57:=by omega
   go_enter Tryz.func176,Tryz.ntmps176
   go_wp2_with fail
   go_ret
   exact⟨rfl,rfl⟩
 .by_cases h3:(65:Int)<=c
  .by_cases h4:(c:Int)<=90
   .have hv:bX c=2:=by unfold bX;rw[if_neg (by omega),if_pos (by omega)]
    rw[hv]
    go_enter Tryz.func176,Tryz.ntmps176
    go_wp2_with fail
    go_ret
    exact⟨rfl,rfl⟩
   .by_cases h5:(c:Int)=95
    .have hv:bX c=2:=by unfold bX;rw[if_neg (by omega),if_pos (by omega)]
     rw[hv]
     go_enter Tryz.func176,Tryz.ntmps176
     go_wp2_with fail
     go_ret
     exact⟨rfl,rfl⟩
    .have h6:(48:Int)<=c:=by omega
     have h7:¬(c:Int)<=57:=by omega
     have hv:bX c=0:=by unfold bX;rw[if_neg (by omega),if_neg (by omega),if_neg (by omega)]
     rw[hv]
     go_enter Tryz.func176,Tryz.ntmps176
     go_wp2_with fail
     go_ret
     exact⟨rfl,rfl⟩
  .have h5:¬(c:Int)=95:=by omega
   by_cases h6:(48:Int)<=c
   .by_cases h7:(c:Int)<=57
    .have hv:bX c=4:=by unfold bX;rw[if_neg (by omega),if_neg (by omega),if_pos (by omega)]
     rw[hv]
     go_enter Tryz.func176,Tryz.ntmps176
     go_wp2_with fail
     go_ret
     exact⟨rfl,rfl⟩
    .have hv:bX c=0:=by unfold bX;rw[if_neg (by omega),if_neg (by omega),if_neg (by omega)]
     rw[hv]
     go_enter Tryz.func176,Tryz.ntmps176
     go_wp2_with fail
     go_ret
     exact⟨rfl,rfl⟩
   .have hv:bX c=0:=by unfold bX;rw[if_neg (by omega),if_neg (by omega),if_neg (by omega)]
    rw[hv]
    go_enter Tryz.func176,Tryz.ntmps176
    go_wp2_with fail
    go_ret
    exact⟨rfl,rfl⟩
def l4(r:Nat):Bool:=decide (122<r)||decide (bX r=0)
theorem D9(c:Nat):((bX c:Int)=0/\bX c=0)\/((bX c=1\/bX c=2\/bX c=4)):=by
 unfold bX;split
 .exact .inr (.inl rfl)
 .split
  .exact .inr (.inr (.inl rfl))
  .split
   .exact .inr (.inr (.inr rfl))
   .exact .inl ⟨rfl,rfl⟩
set_option maxHeartbeats 1000000 in
theorem Ek(r:Nat)(w:World):Calls Tryz.prog 178 #[.int .i32 (r:Int)] w λe w'=>e=.returned (.bool (l4 r))/\w'=w:=by
 by_cases h1:(122:Int)<r
 .have hv:l4 r=true:=by unfold l4;rw[decide_eq_true (by omega:122<r)];rfl
  rw[hv]
  go_enter Tryz.func178,Tryz.ntmps178
  go_wp2_with fail
  go_ret
  exact⟨rfl,rfl⟩
 .have hc:=GK (r:Nat) w;rcases D9 r with ⟨_,h2⟩|h2
  .have hv:l4 r=true:=by unfold l4;rw[decide_eq_true h2,Bool.or_true]
   rw[hv];rw[h2] at hc;have hc:Calls Tryz.prog 176 #[.int .u8 (r:Int)] w λe w'=>e=.returned (.int .u8 0)/\w'=w:=hc
   go_enter Tryz.func178,Tryz.ntmps178
   go_wp2_with (go_at_call 176;refine hc.mono ?_;rintro e w' ⟨rfl,rfl⟩)
   go_ret
   exact⟨rfl,rfl⟩
  .have hv:l4 r=false:=by unfold l4;rw[decide_eq_false (by omega:¬122<r),decide_eq_false (by omega:¬bX r=0)];rfl
   rw[hv];rcases h2 with h2|h2|h2<;>rw[h2] at hc
   .have hc:Calls Tryz.prog 176 #[.int .u8 (r:Int)] w λe w'=>e=.returned (.int .u8 1)/\w'=w:=hc
    go_enter Tryz.func178,Tryz.ntmps178
    go_wp2_with (go_at_call 176;refine hc.mono ?_;rintro e w' ⟨rfl,rfl⟩)
    go_ret
    exact⟨rfl,rfl⟩
   .have hc:Calls Tryz.prog 176 #[.int .u8 (r:Int)] w λe w'=>e=.returned (.int .u8 2)/\w'=w:=hc
    go_enter Tryz.func178,Tryz.ntmps178
    go_wp2_with (go_at_call 176;refine hc.mono ?_;rintro e w' ⟨rfl,rfl⟩)
    go_ret
    exact⟨rfl,rfl⟩
   .have hc:Calls Tryz.prog 176 #[.int .u8 (r:Int)] w λe w'=>e=.returned (.int .u8 4)/\w'=w:=hc
    go_enter Tryz.func178,Tryz.ntmps178
    go_wp2_with (go_at_call 176;refine hc.mono ?_;rintro e w' ⟨rfl,rfl⟩)
    go_ret
    exact⟨rfl,rfl⟩
end Go.CK
namespace Go.AM
open Go.CK Go.RowKit Go.Proofs
theorem Fun.DB{P:Program}{f:FuncId}{vals:List AV}{r:AV}{v:Value}(hr:∀M σ n,RV M σ n r v)(h:∀(M:Hp) (σ:Nat->Nat) (n:Nat) (w:World) (args:List Value),M.le (Hp.of w)->args.length=vals.length->(∀j (hj:j<vals.length) v,args[j]? =some v->RV M σ n vals[j] v)->Calls P f args.toArray w λe w'=>e=.returned v/\Below w.heap.size w w'):Fun P f vals r:=by
 intro bs E G a0 w args lo hs hl hv;refine(h G.M G.σ bs.length w args hs.ok hl hv).mono ?_;rintro e w' ⟨rfl,hb⟩;have hMlt:∀B o u,G.M B o=some u->B<w.heap.size:=λB o u hu=>Hp.lt hs.ok hu;have h0:=hs.w6 (cC G bs w 1) ⟨#[v],[]⟩ (Fr.refl _ _ _) rfl bs.length rfl (ZG _) (λ_ _=>rfl) (λB hB=>.inl hB) rfl;have h1:=h0.grow (M':=G.M) (w':=w') ⟨hb.os,hb.tape,hb.output,hb.size,Hp.le_refl _,λB hB _=>hb.block B hB,λ_ _ _ _=>rfl⟩ (λB o u hu=>(hb.cell (p:=⟨B,o,none⟩) (hMlt B o u hu)).trans (hs.ok _ _ _ hu));exact⟨_,_,_,_,rfl,⟨rfl,rfl⟩,h1.put (k:=0) XF (x:=r) (hr _ _ _)⟩
end Go.AM
namespace Go.CK
open Go.AM Go.RowKit Go.Proofs
theorem Bg(s:ByteArray)(c:UInt8):Fun Tryz.prog 170 [.str s,.str ⟨⟨[c]⟩⟩] (.bool (decide (0<=Lib.indexByte s.data.toList c))):=by
 refine Fun.DB (λM σ n=>.flat (.bool _)) λM σ n w args hM hal hv=>?_
 obtain⟨v1,v2,rfl⟩:∃v1 v2,args=[v1,v2]:=by
  match args,hal with
  |[v1,v2],_=>exact⟨v1,v2,rfl⟩
 have h1:=hv 0 (by simp) v1 rfl
 have h2:=hv 1 (by simp) v2 rfl
 simp only[YP,Yj] at h1 h2;obtain⟨rfl,_⟩:=h1.dG;obtain⟨rfl,_⟩:=h2.dG;refine(Any.strings_Contains_one Tryz.yY s c w).mono ?_;rintro e w' ⟨rfl,rfl⟩;exact⟨rfl,Below.refl _ _⟩
theorem get0{s:ByteArray}(h:0<s.size):s.get! 0=s[0]'h:=by
 show s.data[0]! =s.data[0];exact getElem!_pos s.data 0 h
def mJ(s:ByteArray):Bool:=decide (1<=s.size/\s.size<=40)&&(decide (bX (s.get! 0).toNat=1)&&decide (Lib.idxFunc l4 true (s.extract 1 s.size)<0))
set_option maxHeartbeats 1000000 in
theorem FL(s:ByteArray)(hs:s.size<=9223372036854775807)(w:World):Calls Tryz.prog 165 #[.string s,.int .u8 1] w λe w'=>e=.returned (.bool (mJ s))/\Below w.heap.size w w':=by
 by_cases h0:s=⟨⟨[]⟩⟩
 .subst h0
  go_enter Tryz.func165,Tryz.ntmps165
  go_wp2_with fail
  go_ret
  exact⟨rfl,Below.refl _ _⟩
 .have hpos:0<s.size:=Nat.pos_of_ne_zero λe=>h0 (ByteArray.ext (Array.eq_empty_of_size_eq_zero e))
  have h0':(s.toList==([]:List UInt8))=false:=by
   rw[beq_eq_false_iff_ne];intro e;rw[ByteArray.toList_eq] at e;have:s.data.toList.length=0:=by rw[e];rfl
   rw[YH] at this;exact absurd hpos (by rw[show s.size=s.data.size from rfl,this];omega)
  by_cases h1:(40:Int)<s.size
  .have hv:mJ s=false:=by unfold mJ;rw[decide_eq_false (by omega)];rfl
   rw[hv]
   go_enter Tryz.func165,Tryz.ntmps165
   go_wp2_with fail
   go_ret
   exact⟨rfl,Below.refl _ _⟩
  .have hg:=get0 hpos;have hc:=GK (s[0]'hpos).toNat w
   by_cases h2:bX (s[0]'hpos).toNat=1
   .rw [h2] at hc;have hc:Calls Tryz.prog 176 #[.int .u8 ((s[0]'hpos).toNat:Int)] w λe w'=>e=.returned (.int .u8 1)/\w'=w:=hc;have hi:=Any.strings_IndexFunc Tryz.wB 178 #[] (enters_of Tryz.func178 (by kernel_rfl) rfl) l4 (s.extract 1 s.size) w λW x _=>(Ek x W).mono λe w' ⟨h1,h2⟩=>⟨h1,0,h2⟩
    have hv:mJ s=decide (Lib.idxFunc l4 true (s.extract 1 s.size)<0):=by unfold mJ;rw[hg,decide_eq_true (show 1<=s.size/\s.size<=40 by omega),decide_eq_true h2];rfl
    rw[hv]
    go_enter Tryz.func165,Tryz.ntmps165
    go_wp2_with (first|(go_at_call 176;refine hc.mono ?_;rintro e w' ⟨rfl,rfl⟩)|(go_at_call 177;refine hi.mono ?_;rintro e w' ⟨rfl,hb⟩))
    go_ret
    exact⟨rfl,hb⟩
   .have hv:mJ s=false:=by unfold mJ;rw[hg,decide_eq_false h2];simp
    rw[hv];rcases D9 (s[0]'hpos).toNat with ⟨_,h3⟩|h3|h3|h3
    .rw [h3] at hc;have hc:Calls Tryz.prog 176 #[.int .u8 ((s[0]'hpos).toNat:Int)] w λe w'=>e=.returned (.int .u8 0)/\w'=w:=hc
     go_enter Tryz.func165,Tryz.ntmps165
     go_wp2_with (go_at_call 176;refine hc.mono ?_;rintro e w' ⟨rfl,rfl⟩)
     go_ret
     exact⟨rfl,Below.refl _ _⟩
    .exact absurd h3 h2
    .rw [h3] at hc;have hc:Calls Tryz.prog 176 #[.int .u8 ((s[0]'hpos).toNat:Int)] w λe w'=>e=.returned (.int .u8 2)/\w'=w:=hc
     go_enter Tryz.func165,Tryz.ntmps165
     go_wp2_with (go_at_call 176;refine hc.mono ?_;rintro e w' ⟨rfl,rfl⟩)
     go_ret
     exact⟨rfl,Below.refl _ _⟩
    .rw [h3] at hc;have hc:Calls Tryz.prog 176 #[.int .u8 ((s[0]'hpos).toNat:Int)] w λe w'=>e=.returned (.int .u8 4)/\w'=w:=hc
     go_enter Tryz.func165,Tryz.ntmps165
     go_wp2_with (go_at_call 176;refine hc.mono ?_;rintro e w' ⟨rfl,rfl⟩)
     go_ret
     exact⟨rfl,Below.refl _ _⟩
end Go.CK
