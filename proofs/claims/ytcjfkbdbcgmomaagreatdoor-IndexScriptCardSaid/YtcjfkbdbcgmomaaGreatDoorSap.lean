/-
  Texts of this aV joined (wip/gen/bundle.py),those declarations only that are needed:AmH AmJ AmK. By an AI agent.
-/
import Derived.Test.YtcjfkbdbcgmomaaGreatDoorSao
set_option linter.unusedSimpArgs false
set_option linter.unusedVariables false
namespace Go.AM
open Go.CK Go.RowKit
def pf(b:Nat)(cs:List AV):AV->AV
 |.ptr b' off=>match Nat.beq b' b with
  |true=>.ept (cs.drop off)
  |false=>.ptr b' off
 |x=>x
def vd(b:Nat)(cs:List AV):AV->AV
 |.fn f xs ys=>.fn f (xs.map (pf b cs)) (ys.map (pf b cs))
 |x=>pf b cs x
theorem RV.pf{M:Hp}{σ:Nat->Nat}{n b:Nat}{cs:List AV}(hc:Cells M (σ b) 0 cs){x:AV}{v:Value}(h:RV M σ n x v):RV M σ n (pf b cs x) v:=by
 unfold AM.pf;split
 .rename_i b' off;obtain⟨rfl,_⟩:=h.eP;split
  .rename_i hb;have:=zP hb;subst this;refine .ept _ _ _ ?_;have:=hc.drop off
   rwa [ZJ] at this
  .exact h
 .exact h
theorem RV.vd{M:Hp}{σ:Nat->Nat}{n b:Nat}{cs:List AV}(hc:Cells M (σ b) 0 cs){x:AV}{v:Value}(h:RV M σ n x v):RV M σ n (vd b cs x) v:=by
 unfold AM.vd;split
 .rename_i f xs ys;obtain⟨us,vs,rfl,h1,h2,h3,h4⟩:=h.nx;refine .fn f _ _ us vs (by simp[h1]) (by simp[h2]) (λj hj v hv=>?_) (λj hj v hv=>?_)
  .simp only[zF] at hj;rw[ZE];exact(h3 j hj v hv).pf hc
  .simp only[zF] at hj;rw[ZE];exact(h4 j hj v hv).pf hc
 .exact h.pf hc
section
variable{E:Entry}{G:Gh}{s:St}{a:Act}{w:World}
theorem RS.dead(h:RS E G s a w){b:Nat}{cs:List AV}(hb:aa s.bs b=some cs)(hf:∀x∈cs,x.aU=true):
  ∃G':Gh,RS E G' ⟨s.env,s.bs.set b .dead,s.lo⟩ a w/\G'.σ=G.σ/\Cells G'.M (G.σ b) 0 cs:=by
 obtain⟨vs,T,h1,h2⟩:=h.box b cs hb;obtain⟨hM,hmine⟩:=h.bmem b cs hb;have hle:G.M.le (bc G.M (G.σ b) 0 vs.toList):=du λo _=>hM o
 have hat:∀p x,(⟨s.env,s.bs.set b .dead,s.lo⟩:St).at p=some x->s.at p=some x/\∀j,p≠.bx b j:=λp x hp=>by
  cases p with
  |sl t=>exact⟨hp,λj e=>by cases e⟩
  |bx c j=>
   simp only[St.at,bm] at hp|-
   by_cases e:c=b
   .rw [if_pos e] at hp;cases hp
   .rw [if_neg e] at hp;exact⟨hp,λj' e'=>by cases e';exact e rfl⟩
 have hbc:∀c ds,aa (s.bs.set b .dead) c=some ds->aa s.bs c=some ds/\G.σ c≠G.σ b:=λc ds hc=>by
  rw[bm] at hc
  by_cases e:c=b
  .rw [if_pos e] at hc;cases hc
  .rw [if_neg e] at hc;exact⟨hc,λe2=>e (h.inj c b ds cs hc hb e2)⟩
 have hlen:(s.bs.set b .dead).length=s.bs.length:=by simp
 refine⟨{G with M:=bc G.M (G.σ b) 0 vs.toList},⟨⟨h.fr.os,h.fr.tape,h.fr.output,h.fr.size,Hp.le_trans h.fr.le hle,h.fr.heap,λB hB hn o=>?_,h.fr.kn.mono hle⟩,λc o v hv=>?_,h.nt,λp x hp=>?_,λc j x hp=>h.one c j x (hat _ x hp).1,λc ds hc=>h.box c ds (hbc c ds hc).1,λc ds hc=>?_,λc c' ds ds' hc hc' e=>h.inj c c' ds ds' (hbc c ds hc).1 (hbc c' ds' hc').1 e,λp z l hp=>?_,h.clinj,λp B hB c ds hc=>h.clbox p B hB c ds (hbc c ds hc).1,h.cllt,h.lo,by rw[hlen];exact h.len,h.sig,?_⟩,rfl,λj hj=>?_⟩
 .have hne:B≠G.σ b:=λe=>by
   subst e;rcases hmine with h3|h3
   .exact hn h3
   .omega
  exact(bX hne o).trans (h.fr.mem B hB hn o)
 .rcases mw hv with ⟨rfl,j,rfl,hj⟩|hv
  .simp only[Hp.of,World.cell?,h1];simpa using hj
  .exact h.ok c o v hv
 .rw [hlen];exact(h.val p x (hat p x hp).1).mono hle (zG _) (λ_ _=>rfl)
 .obtain ⟨h3,h4⟩:=hbc c ds hc;obtain⟨h5,h6⟩:=h.bmem c ds h3;exact⟨λo=>(bX h4 o).trans (h5 o),h6⟩
 .obtain ⟨ad,k,h3,h4,h5⟩:=h.own p z l (hat p _ hp).1;refine⟨ad,k,h3,h4,?_⟩;rcases h5 with h5|⟨B,hB,h6,h7⟩
  .exact .inl h5
  .exact .inr ⟨B,hB,h6,h7.lt,h7.cells,λo ho=>(bX (λe=>h.clbox p B hB b cs hb e.symm) o).trans (h7.free o ho),h7.mine⟩
 .refine h.sp.step hle (λ_ _=>rfl) (λc x hc=>?_) (λ_ _ k _=>k) (λ_ _ _ _ p k=>⟨p,k⟩) (λ_ k=>k) (λc j B o _ q1 q2=>⟨q1,q2,λq3 k=>(bX (λe=>h.clbox _ B q1 b cs hb e.symm) k).trans (q3 k)⟩);rw[bS] at hc;split at hc
  .cases hc
  .exact hc
 .obtain ⟨u,h3,h4,h5⟩:=h.si hb j hj;have hfl:=hf _ (zd hj)
  have hd:(cs[j]).aG=cs[j]:=by
   generalize cs[j]=y at*;cases y<;>try rfl
   rename_i o l;cases o<;>first|rfl|cases hfl
  rw[hd] at h5
  have hju:vs.toList[j]? =some u:=by
   simp only[World.cell?,h1] at h3;simpa using h3
  exact⟨u,by have:=fR (M:=G.M) (B:=G.σ b) (off:=0) hju;exact this,h4,(h5.aU hfl).mono hle⟩
theorem au.freeze(s:St)(t b:Nat){cs:List AV}{x:AV}(ht:aq s.env t=some x)(hb:aa s.bs b=some cs)(hf:cs.all AV.aU=true)(hx:x.aG=x):au s ⟨aM s.env t (vd b cs x),s.bs.set b .dead,s.lo⟩:=λE G a w hs=>by
 obtain⟨G',h1,h2,h3⟩:=hs.dead hb (by simpa using hf)
 have hat:(⟨s.env,s.bs.set b .dead,s.lo⟩:St).at (.sl t)=some x:=ht;have hv:=h1.val _ _ hat;rw[hx] at hv;rw[<-h2] at h3;exact⟨G',h1.upd (q:=.sl t) hat (hv.vd h3)⟩
end
theorem JF.freeze{s:St}{t:Nat}(b:Nat){cs:List AV}{x:AV}{Q:AV->List Box->Prop}(h0:aq s.env t=some x)(hb:aa s.bs b=some cs)(hf:cs.all AV.aU=true)(hx:x.aG=x)(h:fv (vd b cs x) λx=>Q x (s.bs.set b .dead)):JF s [.slot t] Q:=
 ⟨_,au.freeze s t b h0 hb hf hx,by
  have:(⟨aM s.env t (vd b cs x),s.bs.set b .dead,s.lo⟩:St).get t=vd b cs x:=by simp[St.get,fC]
  simp only[rT];rw[BE] at h;rw[this];exact h⟩
end Go.AM
namespace Go.AM
open Go.CK Go.RowKit
def clF(n:Nat)(cl:Pl->Option Nat):Pl->Option Nat
 |.sl _=>none
 |.bx b j=>if b<n then cl (.bx b j) else none
theorem eV{n:Nat}{cl:Pl->Option Nat}{p:Pl}{B:Nat}(h:clF n cl p=some B):∃b j,p=.bx b j/\b<n/\cl (.bx b j)=some B:=by
 cases p with
 |sl t=>cases h
 |bx b j=>
  simp only[clF] at h;split at h
  .exact ⟨b,j,rfl,by assumption,h⟩
  .cases h
theorem hZ{bs cs:List Box}{b:Nat}:aa (bs++cs) b=if b<bs.length then aa bs b else aa cs (b-bs.length):=by
 simp only[aa]
 by_cases h:b<bs.length
 .rw [zK h,if_pos h]
 .rw [za (by omega),if_neg h]
theorem jz{bs cs:List Box}{b:Nat}:ag (bs++cs) b=if b<bs.length then ag bs b else ag cs (b-bs.length):=by
 simp only[ag]
 by_cases h:b<bs.length
 .rw [zK h,if_pos h]
 .rw [za (by omega),if_neg h]
theorem ba{bs:List Box}(cs:List Box){b:Nat}{ds:List AV}(h:aa bs b=some ds):aa (bs++cs) b=some ds:=by
 rw[hZ,if_pos (aB h)];exact h
theorem bz{bs:List Box}(cs:List Box){b:Nat}{x:LB}(h:ag bs b=some x):ag (bs++cs) b=some x:=by
 rw[jz,if_pos (aI h)];exact h
section
variable{E:Entry}{G:Gh}{a:Act}{w:World}
theorem RS.hide{bs cs:List Box}{lo:Nat}(h:RS E G ⟨[],bs++cs,lo⟩ a w)(hlt:ak bs.length bs=true)(a':Act)(hds:a'.defers=[]):
  RS (bB ⟨G.M,G.σ,clF bs.length G.cl⟩ bs w a'.tmps.size) ⟨G.M,G.σ,clF bs.length G.cl⟩ ⟨[],bs,bs.length⟩ a' w:=by
 have hat:∀p x,(⟨[],bs,bs.length⟩:St).at p=some x->∃b j ds,p=.bx b j/\b<bs.length/\aa bs b=some ds/\ds[j]? =some x/\(⟨[],bs++cs,lo⟩:St).at (.bx b j)=some x:=λp x hp=>by
  cases p with
  |sl t=>simp[St.at,aq] at hp
  |bx b j=>
   simp only[St.at] at hp
   cases hb:aa bs b with
   |none=>rw[hb] at hp;cases hp
   |some ds=>
    rw[hb] at hp;refine⟨b,j,ds,rfl,aB hb,hb,hp,?_⟩;simp only[St.at,ba cs hb];exact hp
 refine⟨Fr.refl _ _ _ h.fr.kn,h.ok,rfl,λp x hp=>?_,λb j x hp=>?_,λb ds hb=>h.box b ds (ba cs hb),λb ds hb=>⟨(h.bmem b ds (ba cs hb)).1,.inl (.inl ⟨b,ds,hb,rfl⟩)⟩,λb b' ds ds' hb hb' e=>h.inj b b' ds ds' (ba cs hb) (ba cs hb') e,λp z l hp=>?_,λp q B hp hq=>?_,λp B hB b ds hb=>?_,λp B hB=>?_,rfl,zG _,λ_ _=>rfl,?_⟩
 .obtain ⟨b,j,ds,rfl,_,hb,hj,hx⟩:=hat p x hp;exact(h.val _ _ hx).lt (by rw[tM];exact bV hlt hb hj)
 .obtain ⟨b',j',ds,e,_,_,_,hx⟩:=hat _ x hp;cases e;exact h.one _ _ _ hx
 .obtain ⟨b,j,ds,rfl,hbl,hb,hj,hx⟩:=hat p _ hp;obtain⟨ad,k,h1,h2,h3⟩:=h.own _ _ _ hx;refine⟨ad,k,h1,h2,?_⟩;rcases h3 with h3|⟨B,hB,h4,h5⟩
  .exact .inl h3
  .have hB':clF bs.length G.cl (.bx b j)=some B:=by simp only[clF,if_pos hbl];exact hB
   exact .inr ⟨B,hB',h4,h5.lt,h5.cells,h5.free,.inl (.inr (.inl ⟨b,j,hB'⟩))⟩
 .obtain ⟨b,j,rfl,_,h1⟩:=eV hp;obtain⟨b',j',rfl,_,h2⟩:=eV hq;exact h.clinj _ _ B h1 h2
 .obtain ⟨b',j',rfl,_,h1⟩:=eV hB;exact h.clbox _ B h1 b ds (ba cs hb)
 .have hB0:=hB;obtain⟨b',j',rfl,_,h1⟩:=eV hB;exact⟨(h.cllt _ B h1).1,.inl (.inr (.inl ⟨b',j',hB0⟩))⟩
 .rw [hds]
  refine⟨λB o hs=>?_,λb x hb=>h.sp.base b x (bz cs hb),λb b' x x' hb hb' e=>h.sp.inj b b' x x' (bz cs hb) (bz cs hb') e,⟨[],rfl,.nil⟩,λb x hb j B o hj=>by
   obtain⟨q1,q2,q3⟩:=h.sp.rows b x (bz cs hb) j B o hj;exact⟨q1,by simp only[clF,if_pos (aI hb)];exact q2,q3⟩⟩
  rcases hs with ⟨b,x,hb,e,ho⟩|⟨hm,_⟩
  .obtain ⟨h1,h2,_⟩:=h.sp.ob B o (.inl ⟨b,x,bz cs hb,e,ho⟩);refine⟨h1,λp hp=>?_,.inl (.inr (.inr ⟨b,x,hb,e⟩))⟩;obtain⟨b',j',rfl,_,h3⟩:=eV hp;exact h2 _ h3
  .cases hm
theorem RS.J2{bs cs own:List Box}{lo:Nat}(h:RS E G ⟨[],bs++cs,lo⟩ a w)(hol:own.length=bs.length){G':Gh}{r:AV}{v:Value}{w':World}
  (h':RS (bB ⟨G.M,G.σ,clF bs.length G.cl⟩ bs w 1) G' ⟨[(0,r)],own,bs.length⟩ ⟨#[v],[]⟩ w'):
  ∃G'',RS (bB G (bs++cs) w 1) G'' ⟨[(0,r)],own++cs,(bs++cs).length⟩ ⟨#[v],[]⟩ w':=by
 have hσ:∀b,b<bs.length->G'.σ b=G.σ b:=h'.sig;have hfr:Fr (eA ⟨G.M,G.σ,clF bs.length G.cl⟩ bs) G.M w G'.M w':=h'.fr
 have hFP:∀B,eA ⟨G.M,G.σ,clF bs.length G.cl⟩ bs B->eA G (bs++cs) B:=λB hB=>by
  rcases hB with ⟨b,ds,hb,e⟩|⟨b,j,hb⟩|⟨b,x,hb,e⟩
  .exact .inl ⟨b,ds,ba cs hb,e⟩
  .obtain ⟨b',j',e,_,h1⟩:=eV (n:=bs.length) (cl:=G.cl) (p:=.bx b j) hb;exact .inr (.inl ⟨b',j',h1⟩)
  .exact .inr (.inr ⟨b,x,bz cs hb,e⟩)
 have hmine:∀B,(eA ⟨G.M,G.σ,clF bs.length G.cl⟩ bs B\/w.heap.size<=B)->(eA G (bs++cs) B\/w.heap.size<=B):=λB hB=>hB.imp (hFP B) id
 --what is behind is apart
 have noC:∀b ds,¬b<bs.length->aa (bs++cs) b=some ds->¬eA ⟨G.M,G.σ,clF bs.length G.cl⟩ bs (G.σ b):=λb ds hn hb hF=>by
  rcases hF with ⟨c,es,hc,e⟩|⟨c,j,hc⟩|⟨c,x,hc,e⟩
  .have:=h.inj c b es ds (ba cs hc) hb e;have:=aB hc;omega
  .obtain ⟨b',j',_,_,h1⟩:=eV (n:=bs.length) (cl:=G.cl) (p:=.bx c j) hc;exact h.clbox _ _ h1 b ds hb rfl
  .have h1:=(h.sp.ob _ _ (.inl ⟨c,x,bz cs hc,e,rfl⟩)).1;obtain⟨vs,T,h2,_⟩:=h.box b ds hb;have h2:w.heap[G.σ b]? =some (.cells vs T (0,0)):=h2;exact x.yd (h2.symm.trans h1)
 have noCl:∀b j B,¬b<bs.length->G.cl (.bx b j)=some B->¬eA ⟨G.M,G.σ,clF bs.length G.cl⟩ bs B:=λb j B hn hb hF=>by
  rcases hF with ⟨c,es,hc,e⟩|⟨c,j',hc⟩|⟨c,x,hc,e⟩
  .exact h.clbox _ B hb c es (ba cs hc) e
  .obtain ⟨b',j'',e,hlt,h1⟩:=eV (n:=bs.length) (cl:=G.cl) (p:=.bx c j') hc;have:=h.clinj _ _ B hb h1;cases this;exact hn hlt
  .exact (h.sp.ob B _ (.inl ⟨c,x,bz cs hc,e,rfl⟩)).2.1 _ hb
 have noL:∀b x,¬b<bs.length->ag (bs++cs) b=some x->¬eA ⟨G.M,G.σ,clF bs.length G.cl⟩ bs (G.σ b):=λb x hn hb hF=>by
  obtain⟨h1,h2,_⟩:=h.sp.ob _ _ (.inl ⟨b,x,hb,rfl,rfl⟩);rcases hF with ⟨c,es,hc,e⟩|⟨c,j',hc⟩|⟨c,y,hc,e⟩
  .obtain ⟨vs,T,h3,_⟩:=h.box c es (ba cs hc);have h3:w.heap[G.σ c]? =some (.cells vs T (0,0)):=h3;rw[show G.σ c=G.σ b from e] at h3;exact x.yd (h3.symm.trans h1)
  .obtain ⟨b',j'',_,_,h3⟩:=eV (n:=bs.length) (cl:=G.cl) (p:=.bx c j') hc;exact h2 _ h3
  .have:=h.sp.inj c b y x (bz cs hc) hb e;have:=aI hc;omega
 have hlen:(own++cs).length=(bs++cs).length:=by simp[hol]
 have hbk:∀b ds,¬b<bs.length->aa (own++cs) b=some ds->aa (bs++cs) b=some ds:=λb ds hn hb=>by
  rw[hZ,if_neg (by omega)] at hb
  rw[hZ,if_neg hn,<-hol];exact hb
 have hfk:∀b ds,b<bs.length->aa (own++cs) b=some ds->aa own b=some ds:=λb ds hn hb=>by
  rw[hZ,if_pos (by omega)] at hb;exact hb
 have hlk:∀b x,¬b<bs.length->ag (own++cs) b=some x->ag (bs++cs) b=some x:=λb x hn hb=>by
  rw[jz,if_neg (by omega)] at hb
  rw[jz,if_neg hn,<-hol];exact hb
 have hlf:∀b x,b<bs.length->ag (own++cs) b=some x->ag own b=some x:=λb x hn hb=>by
  rw[jz,if_pos (by omega)] at hb;exact hb
 have hnew:∀q B,G'.cl q=some B->eA ⟨G.M,G.σ,clF bs.length G.cl⟩ bs B\/w.heap.size<=B:=λq B hB=>(h'.cllt q B hB).2
 have hcl:∀p B,(λp:Pl=>match p with|.sl t=>G'.cl (.sl t)|.bx b j=>if b<bs.length then G'.cl (.bx b j) else G.cl (.bx b j)) p=some B->
   (G'.cl p=some B/\∀b j,p=.bx b j->b<bs.length)\/∃b j,p=.bx b j/\¬b<bs.length/\G.cl (.bx b j)=some B:=λp B hp=>by
  cases p with
  |sl t=>exact .inl ⟨hp,λb j e=>by cases e⟩
  |bx b j=>
   simp only at hp;split at hp
   .rename_i hb;exact .inl ⟨hp,λb' j' e=>by cases e;exact hb⟩
   .rename_i hb;exact .inr ⟨b,j,rfl,hb,hp⟩
 have hat:∀p x,(⟨[(0,r)],own++cs,(bs++cs).length⟩:St).at p=some x->((⟨[(0,r)],own,bs.length⟩:St).at p=some x/\(∀b j,p=.bx b j->b<bs.length)/\aw G.σ ⟨#[v],[]⟩ w' p=aw G'.σ ⟨#[v],[]⟩ w' p)\/
   (∃b j,p=.bx b j/\¬b<bs.length/\(⟨[],bs++cs,lo⟩:St).at (.bx b j)=some x/\aw G.σ ⟨#[v],[]⟩ w' (.bx b j)=aw G.σ a w (.bx b j)):=λp x hp=>by
  cases p with
  |sl t=>exact .inl ⟨hp,(λb j e=>by cases e),rfl⟩
  |bx b j=>
   simp only[St.at] at hp
   cases hb:aa (own++cs) b with
   |none=>rw[hb] at hp;cases hp
   |some ds=>
    rw[hb] at hp
    by_cases hn:b<bs.length
    .refine .inl ⟨by simp only[St.at,hfk b ds hn hb];exact hp,(λb' j' e=>by cases e;exact hn),?_⟩
     simp only[aw,hσ b hn]
    .have hb':=hbk b ds hn hb;refine .inr ⟨b,j,rfl,hn,by simp only[St.at,hb'];exact hp,?_⟩
     simp only[aw];rw[bD (hfr.heap _ (h.blt hb') (noC b ds hn hb'))]
 refine⟨⟨G'.M,G.σ,λp=>match p with|.sl t=>G'.cl (.sl t)|.bx b j=>if b<bs.length then G'.cl (.bx b j) else G.cl (.bx b j)⟩,
  ⟨hfr.os,hfr.tape,hfr.output,hfr.size,hfr.le,λB hB hn=>hfr.heap B hB (λk=>hn (hFP B k)),λB hB hn=>hfr.mem B hB (λk=>hn (hFP B k)),hfr.kn⟩,h'.ok,rfl,λp x hp=>?_,λb j x hp=>?_,λb ds hb=>?_,λb ds hb=>?_,λb b' ds ds' hb hb' e=>?_,λp z l hp=>?_,λp q B hp hq=>?_,λp B hB b ds hb=>?_,λp B hB=>?_,rfl,by show (bs++cs).length<=(own++cs).length;omega,λ_ _=>rfl,?_⟩
 .rcases hat p x hp with ⟨h1,_,h2⟩|⟨b,j,rfl,_,h1,h2⟩
  .rw [h2];exact(h'.val p x h1).mono (Hp.le_refl _) (by simp) (λb hb=>(hσ b (by rw[<-hol];exact hb)).symm)
  .rw [h2,show (⟨[(0,r)],own++cs,(bs++cs).length⟩:St).bs.length=(bs++cs).length from hlen];exact(h.val _ _ h1).mono hfr.le (zG _) (λ_ _=>rfl)
 .rcases hat _ x hp with ⟨h1,_,h2⟩|⟨b',j',e,_,h1,h2⟩
  .rw [h2];exact h'.one _ _ _ h1
  .cases e;rw[h2];exact h.one _ _ _ h1
 .by_cases hn:b<bs.length
  .have:=h'.box b ds (hfk b ds hn hb);simp only[hσ b hn] at this;exact this
  .have hb':=hbk b ds hn hb;obtain⟨vs,T,h1,h2⟩:=h.box b ds hb';exact⟨vs,T,(hfr.heap _ (h.blt hb') (noC b ds hn hb')).trans h1,h2⟩
 .by_cases hn:b<bs.length
  .have:=h'.bmem b ds (hfk b ds hn hb);simp only[hσ b hn] at this;exact⟨this.1,hmine _ this.2⟩
  .have hb':=hbk b ds hn hb;exact⟨λo=>(hfr.mem _ (h.blt hb') (noC b ds hn hb') o).trans ((h.bmem b ds hb').1 o),.inl (.inl ⟨b,ds,hb',rfl⟩)⟩
 .have key:∀c c' es es',c<bs.length->¬c'<bs.length->aa (own++cs) c=some es->aa (own++cs) c'=some es'->G.σ c=G.σ c'->False:=λc c' es es' h1 h2 h3 h4 h5=>by
   have h6:=(h'.bmem c es (hfk c es h1 h3)).2;rw[hσ c h1,h5] at h6;have h7:=hbk c' es' h2 h4;rcases h6 with h6|h6
   .exact noC c' es' h2 h7 h6
   .have:w.heap.size<=G.σ c':=h6;have h8:G.σ c'<w.heap.size:=h.blt h7;omega
  by_cases hn:b<bs.length
  .by_cases hn':b'<bs.length
   .exact h'.inj b b' ds ds' (hfk b ds hn hb) (hfk b' ds' hn' hb') (by rw[hσ b hn,hσ b' hn'];exact e)
   .exact (key b b' ds ds' hn hn' hb hb' e).elim
  .by_cases hn':b'<bs.length
   .exact (key b' b ds' ds hn' hn hb' hb e.symm).elim
   .exact h.inj b b' ds ds' (hbk b ds hn hb) (hbk b' ds' hn' hb') e
 .rcases hat p _ hp with ⟨h1,hp2,h2⟩|⟨b,j,rfl,hn,h1,h2⟩
  .obtain ⟨ad,k,h3,h4,h5⟩:=h'.own p z l h1;refine⟨ad,k,h2.trans h3,h4,?_⟩;rcases h5 with h5|⟨B,hB,h6,h7⟩
   .exact .inl h5
   .refine .inr ⟨B,?_,h6,h7.lt,h7.cells,h7.free,hmine _ h7.mine⟩
    cases p with
    |sl t=>exact hB
    |bx b j=>simp only[if_pos (hp2 b j rfl)];exact hB
  .obtain ⟨ad,k,h3,h4,h5⟩:=h.own _ _ _ h1;refine⟨ad,k,h2.trans h3,h4,?_⟩;rcases h5 with h5|⟨B,hB,h6,h7⟩
   .exact .inl h5
   .have hlt:=(h.cllt _ B hB).1;have hnF:=noCl b j B hn hB;obtain⟨vs,T,h8,h9⟩:=h7.cells;exact .inr ⟨B,by simp only[if_neg hn];exact hB,h6,h7.lt,⟨vs,T,(hfr.heap B hlt hnF).trans h8,h9⟩,λo ho=>(hfr.mem B hlt hnF o).trans (h7.free o ho),.inl (.inr (.inl ⟨b,j,hB⟩))⟩
 .have key:∀p' b j,G'.cl p'=some B->¬b<bs.length->G.cl (.bx b j)=some B->False:=λp' b j h1 h2 h3=>by
   rcases hnew p' B h1 with h4|h4
   .exact noCl b j B h2 h3 h4
   .have h5:B<w.heap.size:=(h.cllt _ B h3).1;omega
  rcases hcl p B hp with ⟨h1,_⟩|⟨b,j,rfl,hn,h1⟩
  .rcases hcl q B hq with ⟨h2,_⟩|⟨b',j',rfl,hn',h2⟩
   .exact h'.clinj _ _ B h1 h2
   .exact (key _ _ _ h1 hn' h2).elim
  .rcases hcl q B hq with ⟨h2,_⟩|⟨b',j',rfl,hn',h2⟩
   .exact (key _ _ _ h2 hn h1).elim
   .exact h.clinj _ _ B h1 h2
 .rcases hcl p B hB with ⟨h1,_⟩|⟨b',j',rfl,hn',h1⟩
  .by_cases hn:b<bs.length
   .have:=h'.clbox p B h1 b ds (hfk b ds hn hb)
    rwa [hσ b hn] at this
   .intro e;have e':G.σ b=B:=e;have hb':=hbk b ds hn hb;rcases hnew p B h1 with h4|h4
    .exact noC b ds hn hb' (e'▸h4)
    .have h5:G.σ b<w.heap.size:=h.blt hb';omega
  .by_cases hn:b<bs.length
   .intro e;have e':G.σ b=B:=e;have h6:=(h'.bmem b ds (hfk b ds hn hb)).2;rw[hσ b hn,e'] at h6;rcases h6 with h6|h6
    .exact noCl b' j' B hn' h1 h6
    .have h5:B<w.heap.size:=(h.cllt _ B h1).1;have:w.heap.size<=B:=h6;omega
   .exact h.clbox _ B h1 b ds (hbk b ds hn hb)
 .rcases hcl p B hB with ⟨h1,_⟩|⟨b',j',rfl,hn',h1⟩
  .exact ⟨(h'.cllt p B h1).1,hmine B (hnew p B h1)⟩
  .exact ⟨ZV (h.cllt _ B h1).1 hfr.size,.inl (.inr (.inl ⟨b',j',h1⟩))⟩
 .refine ⟨λB o hs=>?_,λb x hb=>?_,λb b' x x' hb hb' e=>?_,⟨[],rfl,.nil⟩,λb x hb j B o hj=>by
   by_cases hn:b<bs.length
   .obtain ⟨q1,q2,q3⟩:=h'.sp.rows b x (hlf b x hn hb) j B o hj;exact⟨q1,by simp only[if_pos hn];exact q2,q3⟩
   .obtain ⟨q1,q2,q3⟩:=h.sp.rows b x (hlk b x hn hb) j B o hj;have hnF:=noCl b j B hn q2;have hlt:B<w.heap.size:=(h.cllt _ B q2).1;exact⟨(hfr.heap B hlt hnF).trans q1,by simp only[if_neg hn];exact q2,λk=>(hfr.mem B hlt hnF k).trans (q3 k)⟩⟩
  .rcases hs with ⟨b,x,hb,e,ho⟩|⟨hm,_⟩
   .have e':G.σ b=B:=e
    by_cases hn:b<bs.length
    .obtain ⟨h1,h2,h3⟩:=h'.sp.ob B o (.inl ⟨b,x,hlf b x hn hb,(hσ b hn).trans e',ho⟩);refine⟨h1,λp hp=>?_,hmine B h3⟩;rcases hcl p B hp with ⟨h4,_⟩|⟨c,j,rfl,hn',h4⟩
     .exact h2 _ h4
     .rcases h3 with h5|h5
      .exact noCl c j B hn' h4 h5
      .have h6:B<w.heap.size:=(h.cllt _ B h4).1;have:w.heap.size<=B:=h5;omega
    .have hb':=hlk b x hn hb;obtain⟨h1,h2,_⟩:=h.sp.ob B o (.inl ⟨b,x,hb',e',ho⟩);have hlt:B<w.heap.size:=(zi.1 h1).1;have hnF:=noL b x hn hb';rw[e'] at hnF;refine⟨(hfr.heap B hlt hnF).trans h1,λp hp=>?_,.inl (.inr (.inr ⟨b,x,hb',e'⟩))⟩;rcases hcl p B hp with ⟨h4,_⟩|⟨c,j,rfl,hn',h4⟩
     .rcases hnew p B h4 with h5|h5
      .exact hnF h5
      .omega
     .exact h2 _ h4
   .cases hm
  .by_cases hn:b<bs.length
   .obtain ⟨h1,h2,h3⟩:=h'.sp.base b x (hlf b x hn hb);exact⟨h1,h2,λc hc=>(hσ c (by omega)).symm.trans (h3 c hc)⟩
   .obtain ⟨h1,h2,h3⟩:=h.sp.base b x (hlk b x hn hb);exact⟨Hp.le_trans h1 hfr.le,h2,h3⟩
  .have e':G.σ b=G.σ b':=e
   have key:∀c c' y y',c<bs.length->¬c'<bs.length->ag (own++cs) c=some y->ag (own++cs) c'=some y'->G.σ c=G.σ c'->False:=λc c' y y' h1 h2 h3 h4 h5=>by
    have h6:=(h'.sp.ob _ _ (.inl ⟨c,y,hlf c y h1 h3,rfl,rfl⟩)).2.2;rw[hσ c h1,h5] at h6;have h7:=hlk c' y' h2 h4;rcases h6 with h6|h6
    .exact noL c' y' h2 h7 h6
    .have h8:=(zi.1 (h.sp.ob _ _ (.inl ⟨c',y',h7,rfl,rfl⟩)).1).1;have:w.heap.size<=G.σ c':=h6;have h8:G.σ c'<w.heap.size:=h8;omega
   by_cases hn:b<bs.length
   .by_cases hn':b'<bs.length
    .exact h'.sp.inj b b' x x' (hlf b x hn hb) (hlf b' x' hn' hb') (by rw[hσ b hn,hσ b' hn'];exact e')
    .exact (key b b' x x' hn hn' hb hb' e').elim
   .by_cases hn':b'<bs.length
    .exact (key b' b x' x hn' hn hb' hb e'.symm).elim
    .exact h.sp.inj b b' x x' (hlk b x hn hb) (hlk b' x' hn' hb') e'
end
theorem my.frame{P:Program}{b:Nat}{y:List AV}{bs:List Box}{Q:AV->List Box->Prop}(h:my P b y bs Q)(hlt:ak bs.length bs=true)(hy:∀v∈y,v.lt bs.length=true)(hQ:∀r bs',Q r bs'->r.lt bs.length=true/\ak bs.length (bs'.take bs.length)=true)(cs:List Box):
  my P b y (bs++cs) λr bs'=>∃own,Q r own/\bs'=own.take bs.length++cs:=by
 intro E G a0 w args lo hpre hal hav;have h0:=hpre.hide hlt ⟨#[],[]⟩ rfl;obtain⟨f,tmps,assign,body,hyr,hround⟩:=h _ _ _ w args _ h0 hal (λj hj v hv=>(hav j hj v hv).lt (hy _ (zd hj)));refine⟨f,tmps,assign,body,hyr,λrd n=>(hround rd n).mono ?_⟩;rintro e w' ⟨v,r,bs',G',rfl,hq,h'⟩;obtain⟨hr,hb'⟩:=hQ r bs' hq;have hle:bs.length<=bs'.length:=h'.len;obtain⟨G2,h2⟩:=au.cut ⟨[(0,r)],bs',bs.length⟩ bs.length (zG _) hle (by simp only[nE,hr];rfl) hb' _ _ _ _ h'
 obtain⟨G3,h3⟩:=hpre.J2 (by simp;omega) h2
 exact⟨v,r,_,G3,rfl,⟨bs',hq,rfl⟩,h3⟩
end Go.AM
namespace Go.AM
open Go.CK Go.RowKit
def CA(P:Program)(gf:FuncId)(lb:List AV)(xs:List (List AV)):Prop:=
 ∀(b:Nat) (bs:List Box) (J:List (List AV)->List Box->Prop) (Jx:List Box->Prop),b<bs.length->(∀pre bs',J pre bs'->bs'.length=bs.length/\ak bs.length bs'=true)->(∀bs',Jx bs'->bs'.length=bs.length/\ak bs.length bs'=true)->
  (∀pre y rest bs' cs,pre++y::rest=xs->J pre bs'->my P b y (bs'++cs) λr bs2=>∃own,bs2=own++cs/\((r=.bool true/\J (pre++[y]) own)\/(r=.bool false/\Jx own)))->J [] bs->
  Sem P gf (.yl b::lb) bs λ_ bs'=>J xs bs'\/Jx bs'
theorem C9{m n:Nat}(hmn:m<=n){x:AV}(h:x.lt0 m=true):x.lt0 n=true:=by
 cases x<;>first|exact h|(simp only[AV.lt0,decide_eq_true_eq] at h|-;omega)
theorem yh{m n:Nat}(hmn:m<=n){x:AV}(h:x.lt1 m=true):x.lt1 n=true:=by
 cases x with
 |fn f xs ys=>
  simp only[AV.lt1,zD,zT] at h|-
  exact⟨λy hy=>C9 hmn (h.1 y hy),λy hy=>C9 hmn (h.2 y hy)⟩
 |_=>simp only[AV.lt1] at h|-;exact C9 hmn h
theorem KA{m n:Nat}(hmn:m<=n){x:AV}(h:x.lt2 m=true):x.lt2 n=true:=by
 cases x with
 |agg cs=>simp only[AV.lt2,zT] at h|-;exact λy hy=>yh hmn (h y hy)
 |_=>simp only[AV.lt2] at h|-;exact yh hmn h
theorem He{m n:Nat}(hmn:m<=n){x:AV}(h:x.lt m=true):x.lt n=true:=by
 cases x with
 |agg cs=>simp only[AV.lt,zT] at h|-;exact λy hy=>yh hmn (h y hy)
 |tup cs=>simp only[AV.lt,zT] at h|-;exact λy hy=>KA hmn (h y hy)
 |ept cs=>rfl
 |sl o l=>rfl
 |_=>simp only[AV.lt] at h|-;exact yh hmn h
theorem bZ{m n:Nat}(hmn:m<=n):∀{bs:List Box},ak m bs=true->ak n bs=true
 |[],_=>rfl
 |.cells cs::r,h=>by
  simp only[ak,zD,zT] at h|-
  exact⟨λx hx=>He hmn (h.1 x hx),bZ hmn h.2⟩
 |.dead::r,h=>by simp only[ak] at h|-;exact bZ hmn h
 |.loop x::r,h=>by simp only[ak] at h|-;exact bZ hmn h
 |.mp x::r,h=>by simp only[ak] at h|-;exact bZ hmn h
 |.mq x c::r,h=>by simp only[ak] at h|-;exact bZ hmn h
 |.tab x::r,h=>by simp only[ak] at h|-;exact bZ hmn h
 |.row ds::r,h=>by
  simp only[ak,zD,zT] at h|-;exact⟨λx hx=>He hmn (h.1 x hx),bZ hmn h.2⟩
theorem bM{n:Nat}:∀{bs cs:List Box},ak n bs=true->ak n cs=true->ak n (bs++cs)=true
 |[],_,_,h=>h
 |.cells ds::r,cs,h,k=>by
  simp only[ak,zD,zf] at h|-
  exact⟨h.1,bM h.2 k⟩
 |.dead::r,cs,h,k=>by simp only[ak,zf] at h|-;exact bM h k
 |.loop x::r,cs,h,k=>by simp only[ak,zf] at h|-;exact bM h k
 |.mp x::r,cs,h,k=>by simp only[ak,zf] at h|-;exact bM h k
 |.mq x c::r,cs,h,k=>by simp only[ak,zf] at h|-;exact bM h k
 |.tab x::r,cs,h,k=>by simp only[ak,zf] at h|-;exact bM h k
 |.row ds::r,cs,h,k=>by
  simp only[ak,zD,zf] at h|-;exact⟨h.1,bM h.2 k⟩
theorem mo{own:List Box}(h:ak own.length own=true)(x:LB):ak (own.length+1) (own++[.loop x])=true:=bM (bZ (Nat.le_succ _) h) rfl
theorem CA.use{P:Program}{gf:FuncId}{lb:List AV}{xs:List (List AV)}(hi:CA P gf lb xs)(b:Nat)(bs:List Box)(J:List (List AV)->List Box->Prop)(Jx:List Box->Prop)(hb:b<bs.length)
  (hJ:∀pre bs',J pre bs'->bs'.length=bs.length/\ak bs.length bs'=true) (hJx:∀bs',Jx bs'->bs'.length=bs.length/\ak bs.length bs'=true) (hy:∀y∈xs,∀v∈y,v.lt bs.length=true)
  (hr:∀pre y rest bs,pre++y::rest=xs->J pre bs->my P b y bs λr bs'=>(r=.bool true/\J (pre++[y]) bs')\/(r=.bool false/\Jx bs')) (h0:J [] bs):
  Sem P gf (.yl b::lb) bs λ_ bs'=>J xs bs'\/Jx bs':=by
 refine hi b bs J Jx hb hJ hJx (λpre y rest bs' cs hxs hj=>?_) h0;obtain⟨hl,hlt⟩:=hJ pre bs' hj
 have:=(hr pre y rest bs' hxs hj).frame (by rw[hl];exact hlt) (λv hv=>by rw[hl];exact hy y (by rw[<-hxs];simp) v hv) (λr bs2 hq=>by
  rcases hq with ⟨rfl,hq⟩|⟨rfl,hq⟩
  .obtain ⟨h1,h2⟩:=hJ _ _ hq;exact⟨rfl,by rw[hl,<-h1,ZA];rw[h1];exact h2⟩
  .obtain ⟨h1,h2⟩:=hJx _ hq;exact⟨rfl,by rw[hl,<-h1,ZA];rw[h1];exact h2⟩) cs
 intro E G a0 w args lo h1 h2 h3;obtain⟨f,tmps,assign,body,h4,h5⟩:=this E G a0 w args lo h1 h2 h3;refine⟨f,tmps,assign,body,h4,λrd n=>(h5 rd n).mono ?_⟩;rintro e w' ⟨v,r,bs2,G',rfl,⟨own,hq,rfl⟩,h6⟩;refine⟨v,r,_,G',rfl,⟨own,?_,?_⟩,h6⟩
 .have:own.length=bs'.length:=by
   rcases hq with ⟨_,hq⟩|⟨_,hq⟩
   .rw [hl];exact(hJ _ _ hq).1
   .rw [hl];exact(hJx _ hq).1
  rw[<-this,ZA]
 .exact hq
theorem az.eqS{s t:St}(h1:s.env=t.env)(h2:s.bs=t.bs)(h3:s.lo=t.lo):az s t:=by
 obtain⟨a,b,c⟩:=s;obtain⟨a',b',c'⟩:=t;simp only at h1 h2 h3;subst h1 h2 h3;exact⟨au.refl _⟩
end Go.AM
