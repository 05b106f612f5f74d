/-
  By an AI agent.
-/
import Derived.Test.YtcjfkbdbcgmomaaGreatDoorQao
set_option linter.unusedSimpArgs false
set_option linter.unusedVariables false
namespace Go.AM
open Go.CK Go.RowKit
def pW(b:Nat)(cs:List AV):AV->AV
 |.ptr a off=>match Nat.beq a b with
  |true=>.ept (cs.drop off)
  |false=>.ptr a off
 |x=>x
def wJ(b:Nat)(cs:List AV):AV->AV
 |.fn f xs ys=>.fn f (xs.map (pW b cs)) (ys.map (pW b cs))
 |x=>pW b cs x
theorem RV.pW{M:Hp}{σ:Nat->Nat}{n b:Nat}{cs:List AV}(a:Cells M (σ b) 0 cs){x:AV}{v:Value}(h:RV M σ n x v):RV M σ n (pW b cs x) v:=by
 unfold AM.pW;split
 .rename_i c off;obtain⟨rfl,_⟩:=h.hR;split
  .rename_i hb;have:=zO hb;subst this;refine .ept _ _ _ ?_;have:=a.drop off
   rwa [ZI] at this
  .exact h
 .exact h
theorem RV.wJ{M:Hp}{σ:Nat->Nat}{n b:Nat}{cs:List AV}(d:Cells M (σ b) 0 cs){x:AV}{v:Value}(h:RV M σ n x v):RV M σ n (wJ b cs x) v:=by
 unfold AM.wJ;split
 .rename_i f xs ys;obtain⟨us,vs,rfl,k,i,g,e⟩:=h.rZ;refine .fn f _ _ us vs (by simp[k]) (by simp[i]) (λj a v c=>?_) (λj a v c=>?_)
  .simp only[zF] at a;rw[ZD];exact(g j a v c).pW d
  .simp only[zF] at a;rw[ZD];exact(e j a v c).pW d
 .exact h.pW d
section
variable{E:Entry}{G:Gh}{s:St}{a:Act}{w:World}
theorem RS.dead(h:RS E G s a w){b:Nat}{cs:List AV}(hb:aa s.bs b=some cs)(U:∀x∈cs,x.aZ=true):
  ∃G':Gh,RS E G' ⟨s.env,s.bs.set b .dead,s.lo⟩ a w/\G'.σ=G.σ/\Cells G'.M (G.σ b) 0 cs:=by
 obtain⟨vs,T,O,h2⟩:=h.box b cs hb;obtain⟨W,m⟩:=h.bmem b cs hb;have hle:G.M.le (bm G.M (G.σ b) 0 vs.toList):=dn λo _=>W o
 have n:∀p x,(⟨s.env,s.bs.set b .dead,s.lo⟩:St).at p=some x->s.at p=some x/\∀j,p≠.bx b j:=λp x hp=>by
  cases p with
  |sl t=>exact⟨hp,λj e=>by cases e⟩
  |bx c j=>
   simp only[St.at,bw] at hp|-
   by_cases e:c=b
   .rw [if_pos e] at hp;cases hp
   .rw [if_neg e] at hp;exact⟨hp,λj' Y=>by cases Y;exact e rfl⟩
 have f:∀c ds,aa (s.bs.set b .dead) c=some ds->aa s.bs c=some ds/\G.σ c≠G.σ b:=λc ds d=>by
  rw[bw] at d
  by_cases e:c=b
  .rw [if_pos e] at d;cases d
  .rw [if_neg e] at d;exact⟨d,λX=>e (h.inj c b ds cs d hb X)⟩
 have hlen:(s.bs.set b .dead).length=s.bs.length:=by simp
 refine⟨{G with M:=bm G.M (G.σ b) 0 vs.toList},⟨⟨h.fr.os,h.fr.tape,h.fr.output,h.fr.size,Hp.le_trans h.fr.le hle,h.fr.heap,λB hB N o=>?_,h.fr.kn.mono hle⟩,λc o v F=>?_,h.nt,λp x hp=>?_,λc j x hp=>h.one c j x (n _ x hp).1,λc ds d=>h.box c ds (f c ds d).1,λc ds d=>?_,λc P ds A d J e=>h.inj c P ds A (f c ds d).1 (f P A J).1 e,λp z l hp=>?_,h.clinj,λp B hB c ds d=>h.clbox p B hB c ds (f c ds d).1,h.cllt,h.lo,by rw[hlen];exact h.len,h.sig,?_⟩,rfl,λj C=>?_⟩
 .have H:B≠G.σ b:=λe=>by
   subst e;rcases m with g|g
   .exact N g
   .omega
  exact(b9 H o).trans (h.fr.mem B hB N o)
 .rcases mz F with ⟨rfl,j,rfl,C⟩|F
  .simp only[Hp.of,World.cell?,O];simpa using C
  .exact h.ok c o v F
 .rw [hlen];exact(h.val p x (n p x hp).1).mono hle (zG _) (λ_ _=>rfl)
 .obtain ⟨g,r⟩:=f c ds d;obtain⟨i,K⟩:=h.bmem c ds g;exact⟨λo=>(b9 r o).trans (i o),K⟩
 .obtain ⟨Z,k,g,r,i⟩:=h.own p z l (n p _ hp).1;refine⟨Z,k,g,r,?_⟩;rcases i with i|⟨B,hB,K,D⟩
  .exact .inl i
  .exact .inr ⟨B,hB,K,D.lt,D.cells,λo S=>(b9 (λe=>h.clbox p B hB b cs hb e.symm) o).trans (D.free o S),D.mine⟩
 .refine h.sp.step hle (λ_ _=>rfl) (λc x d=>?_) (λ_ _ k _=>k) (λ_ _ _ _ p k=>⟨p,k⟩) (λ_ k=>k) (λc j B o _ L R=>⟨L,R,λQ k=>(b9 (λe=>h.clbox _ B L b cs hb e.symm) k).trans (Q k)⟩);rw[bX] at d;split at d
  .cases d
  .exact d
 .obtain ⟨u,g,r,i⟩:=h.wq hb j C;have q:=U _ (zc C)
  have V:(cs[j]).aI=cs[j]:=by
   generalize cs[j]=y at*;cases y<;>try rfl
   rename_i o l;cases o<;>first|rfl|cases q
  rw[V] at i
  have I:vs.toList[j]? =some u:=by
   simp only[World.cell?,O] at g;simpa using g
  exact⟨u,by have:=fP (M:=G.M) (B:=G.σ b) (off:=0) I;exact this,r,(i.aZ q).mono hle⟩
theorem aD.freeze(s:St)(t b:Nat){cs:List AV}{x:AV}(h:au s.env t=some x)(hb:aa s.bs b=some cs)(i:cs.all AV.aZ=true)(g:x.aI=x):aD s ⟨aT s.env t (wJ b cs x),s.bs.set b .dead,s.lo⟩:=λE G a w hs=>by
 obtain⟨G',f,j,e⟩:=hs.dead hb (by simpa using i)
 have c:(⟨s.env,s.bs.set b .dead,s.lo⟩:St).at (.sl t)=some x:=h;have d:=f.val _ _ c;rw[g] at d;rw[<-j] at e;exact⟨G',f.upd (q:=.sl t) c (d.wJ e)⟩
end
theorem Lp.freeze{s:St}{t:Nat}(b:Nat){cs:List AV}{x:AV}{Q:AV->List Box->Prop}(d:au s.env t=some x)(hb:aa s.bs b=some cs)(c:cs.all AV.aZ=true)(a:x.aI=x)(h:fv (wJ b cs x) λx=>Q x (s.bs.set b .dead)):Lp s [.slot t] Q:=
 ⟨_,aD.freeze s t b d hb c a,by
  have:(⟨aT s.env t (wJ b cs x),s.bs.set b .dead,s.lo⟩:St).get t=wJ b cs x:=by simp[St.get,fi]
  simp only[s8];rw[Dh] at h;rw[this];exact h⟩
end Go.AM
namespace Go.AM
open Go.CK Go.RowKit
def clF(n:Nat)(cl:Pl->Option Nat):Pl->Option Nat
 |.sl _=>none
 |.bx b j=>if b<n then cl (.bx b j) else none
theorem eJ{n:Nat}{cl:Pl->Option Nat}{p:Pl}{B:Nat}(h:clF n cl p=some B):∃b j,p=.bx b j/\b<n/\cl (.bx b j)=some B:=by
 cases p with
 |sl t=>cases h
 |bx b j=>
  simp only[clF] at h;split at h
  .exact ⟨b,j,rfl,by assumption,h⟩
  .cases h
theorem ia{bs cs:List Box}{b:Nat}:aa (bs++cs) b=if b<bs.length then aa bs b else aa cs (b-bs.length):=by
 simp only[aa]
 by_cases h:b<bs.length
 .rw [zK h,if_pos h]
 .rw [zZ (by omega),if_neg h]
theorem jF{bs cs:List Box}{b:Nat}:ah (bs++cs) b=if b<bs.length then ah bs b else ah cs (b-bs.length):=by
 simp only[ah]
 by_cases h:b<bs.length
 .rw [zK h,if_pos h]
 .rw [zZ (by omega),if_neg h]
theorem bk{bs:List Box}(cs:List Box){b:Nat}{ds:List AV}(h:aa bs b=some ds):aa (bs++cs) b=some ds:=by
 rw[ia,if_pos (aC h)];exact h
theorem bI{bs:List Box}(cs:List Box){b:Nat}{x:LB}(h:ah bs b=some x):ah (bs++cs) b=some x:=by
 rw[jF,if_pos (aO h)];exact h
section
variable{E:Entry}{G:Gh}{a:Act}{w:World}
theorem RS.hide{bs cs:List Box}{lo:Nat}(h:RS E G ⟨[],bs++cs,lo⟩ a w)(v:aj bs.length bs=true)(H:Act)(y:H.defers=[]):
  RS (bR ⟨G.M,G.σ,clF bs.length G.cl⟩ bs w H.tmps.size) ⟨G.M,G.σ,clF bs.length G.cl⟩ ⟨[],bs,bs.length⟩ H w:=by
 have g:∀p x,(⟨[],bs,bs.length⟩:St).at p=some x->∃b j ds,p=.bx b j/\b<bs.length/\aa bs b=some ds/\ds[j]? =some x/\(⟨[],bs++cs,lo⟩:St).at (.bx b j)=some x:=λp x hp=>by
  cases p with
  |sl t=>simp[St.at,au] at hp
  |bx b j=>
   simp only[St.at] at hp
   cases hb:aa bs b with
   |none=>rw[hb] at hp;cases hp
   |some ds=>
    rw[hb] at hp;refine⟨b,j,ds,rfl,aC hb,hb,hp,?_⟩;simp only[St.at,bk cs hb];exact hp
 refine⟨Fr.refl _ _ _ h.fr.kn,h.ok,rfl,λp x hp=>?_,λb j x hp=>?_,λb ds hb=>h.box b ds (bk cs hb),λb ds hb=>⟨(h.bmem b ds (bk cs hb)).1,.inl (.inl ⟨b,ds,hb,rfl⟩)⟩,λb d ds F hb f e=>h.inj b d ds F (bk cs hb) (bk cs f) e,λp z l hp=>?_,λp q B hp N=>?_,λp B hB b ds hb=>?_,λp B hB=>?_,rfl,zG _,λ_ _=>rfl,?_⟩
 .obtain ⟨b,j,ds,rfl,_,hb,u,m⟩:=g p x hp;exact(h.val _ _ m).lt (by rw[lz];exact bK v hb u)
 .obtain ⟨d,i,ds,e,_,_,_,m⟩:=g _ x hp;cases e;exact h.one _ _ _ m
 .obtain ⟨b,j,ds,rfl,A,hb,u,m⟩:=g p _ hp;obtain⟨Q,k,c,s,r⟩:=h.own _ _ _ m;refine⟨Q,k,c,s,?_⟩;rcases r with r|⟨B,hB,P,D⟩
  .exact .inl r
  .have n:clF bs.length G.cl (.bx b j)=some B:=by simp only[clF,if_pos A];exact hB
   exact .inr ⟨B,n,P,D.lt,D.cells,D.free,.inl (.inr (.inl ⟨b,j,n⟩))⟩
 .obtain ⟨b,j,rfl,_,c⟩:=eJ hp;obtain⟨d,i,rfl,_,s⟩:=eJ N;exact h.clinj _ _ B c s
 .obtain ⟨d,i,rfl,_,c⟩:=eJ hB;exact h.clbox _ B c b ds (bk cs hb)
 .have C:=hB;obtain⟨d,i,rfl,_,c⟩:=eJ hB;exact⟨(h.cllt _ B c).1,.inl (.inr (.inl ⟨d,i,C⟩))⟩
 .rw [y]
  refine⟨λB o hs=>?_,λb x hb=>h.sp.base b x (bI cs hb),λb d x I hb f e=>h.sp.inj b d x I (bI cs hb) (bI cs f) e,⟨[],rfl,.nil⟩,λb x hb j B o u=>by
   obtain⟨L,K,J⟩:=h.sp.rows b x (bI cs hb) j B o u;exact⟨L,by simp only[clF,if_pos (aO hb)];exact K,J⟩⟩
  rcases hs with ⟨b,x,hb,e,O⟩|⟨hm,_⟩
  .obtain ⟨c,s,_⟩:=h.sp.ob B o (.inl ⟨b,x,bI cs hb,e,O⟩);refine⟨c,λp hp=>?_,.inl (.inr (.inr ⟨b,x,hb,e⟩))⟩;obtain⟨d,i,rfl,_,r⟩:=eJ hp;exact s _ r
  .cases hm
theorem RS.M8{bs cs own:List Box}{lo:Nat}(h:RS E G ⟨[],bs++cs,lo⟩ a w)(hol:own.length=bs.length){G':Gh}{r:AV}{v:Value}{w':World}
  (I:RS (bR ⟨G.M,G.σ,clF bs.length G.cl⟩ bs w 1) G' ⟨[(0,r)],own,bs.length⟩ ⟨#[v],[]⟩ w'):
  ∃G'',RS (bR G (bs++cs) w 1) G'' ⟨[(0,r)],own++cs,(bs++cs).length⟩ ⟨#[v],[]⟩ w':=by
 have U:∀b,b<bs.length->G'.σ b=G.σ b:=I.sig;have s:Fr (eo ⟨G.M,G.σ,clF bs.length G.cl⟩ bs) G.M w G'.M w':=I.fr
 have hFP:∀B,eo ⟨G.M,G.σ,clF bs.length G.cl⟩ bs B->eo G (bs++cs) B:=λB hB=>by
  rcases hB with ⟨b,ds,hb,e⟩|⟨b,j,hb⟩|⟨b,x,hb,e⟩
  .exact .inl ⟨b,ds,bk cs hb,e⟩
  .obtain ⟨u,R,e,_,g⟩:=eJ (n:=bs.length) (cl:=G.cl) (p:=.bx b j) hb;exact .inr (.inl ⟨u,R,g⟩)
  .exact .inr (.inr ⟨b,x,bI cs hb,e⟩)
 have K:∀B,(eo ⟨G.M,G.σ,clF bs.length G.cl⟩ bs B\/w.heap.size<=B)->(eo G (bs++cs) B\/w.heap.size<=B):=λB hB=>hB.imp (hFP B) id
 --what is behind is apart
 have noC:∀b ds,¬b<bs.length->aa (bs++cs) b=some ds->¬eo ⟨G.M,G.σ,clF bs.length G.cl⟩ bs (G.σ b):=λb ds d hb hF=>by
  rcases hF with ⟨c,es,F,e⟩|⟨c,j,F⟩|⟨c,x,F,e⟩
  .have:=h.inj c b es ds (bk cs F) hb e;have:=aC F;omega
  .obtain ⟨u,R,_,_,g⟩:=eJ (n:=bs.length) (cl:=G.cl) (p:=.bx c j) F;exact h.clbox _ _ g b ds hb rfl
  .have g:=(h.sp.ob _ _ (.inl ⟨c,x,bI cs F,e,rfl⟩)).1;obtain⟨vs,T,m,_⟩:=h.box b ds hb;have m:w.heap[G.σ b]? =some (.cells vs T (0,0)):=m;exact x.A4 (m.symm.trans g)
 have O:∀b j B,¬b<bs.length->G.cl (.bx b j)=some B->¬eo ⟨G.M,G.σ,clF bs.length G.cl⟩ bs B:=λb j B d hb hF=>by
  rcases hF with ⟨c,es,F,e⟩|⟨c,R,F⟩|⟨c,x,F,e⟩
  .exact h.clbox _ B hb c es (bk cs F) e
  .obtain ⟨u,j'',e,L,g⟩:=eJ (n:=bs.length) (cl:=G.cl) (p:=.bx c R) F;have:=h.clinj _ _ B hb g;cases this;exact d L
  .exact (h.sp.ob B _ (.inl ⟨c,x,bI cs F,e,rfl⟩)).2.1 _ hb
 have noL:∀b x,¬b<bs.length->ah (bs++cs) b=some x->¬eo ⟨G.M,G.σ,clF bs.length G.cl⟩ bs (G.σ b):=λb x d hb hF=>by
  obtain⟨g,m,_⟩:=h.sp.ob _ _ (.inl ⟨b,x,hb,rfl,rfl⟩);rcases hF with ⟨c,es,F,e⟩|⟨c,R,F⟩|⟨c,y,F,e⟩
  .obtain ⟨vs,T,C,_⟩:=h.box c es (bk cs F);have C:w.heap[G.σ c]? =some (.cells vs T (0,0)):=C;rw[show G.σ c=G.σ b from e] at C;exact x.A4 (C.symm.trans g)
  .obtain ⟨u,j'',_,_,C⟩:=eJ (n:=bs.length) (cl:=G.cl) (p:=.bx c R) F;exact m _ C
  .have:=h.sp.inj c b y x (bI cs F) hb e;have:=aO F;omega
 have hlen:(own++cs).length=(bs++cs).length:=by simp[hol]
 have Q:∀b ds,¬b<bs.length->aa (own++cs) b=some ds->aa (bs++cs) b=some ds:=λb ds d hb=>by
  rw[ia,if_neg (by omega)] at hb
  rw[ia,if_neg d,<-hol];exact hb
 have P:∀b ds,b<bs.length->aa (own++cs) b=some ds->aa own b=some ds:=λb ds d hb=>by
  rw[ia,if_pos (by omega)] at hb;exact hb
 have X:∀b x,¬b<bs.length->ah (own++cs) b=some x->ah (bs++cs) b=some x:=λb x d hb=>by
  rw[jF,if_neg (by omega)] at hb
  rw[jF,if_neg d,<-hol];exact hb
 have Y:∀b x,b<bs.length->ah (own++cs) b=some x->ah own b=some x:=λb x d hb=>by
  rw[jF,if_pos (by omega)] at hb;exact hb
 have V:∀q B,G'.cl q=some B->eo ⟨G.M,G.σ,clF bs.length G.cl⟩ bs B\/w.heap.size<=B:=λq B hB=>(I.cllt q B hB).2
 have S:∀p B,(λp:Pl=>match p with|.sl t=>G'.cl (.sl t)|.bx b j=>if b<bs.length then G'.cl (.bx b j) else G.cl (.bx b j)) p=some B->
   (G'.cl p=some B/\∀b j,p=.bx b j->b<bs.length)\/∃b j,p=.bx b j/\¬b<bs.length/\G.cl (.bx b j)=some B:=λp B hp=>by
  cases p with
  |sl t=>exact .inl ⟨hp,λb j e=>by cases e⟩
  |bx b j=>
   simp only at hp;split at hp
   .rename_i hb;exact .inl ⟨hp,λu R e=>by cases e;exact hb⟩
   .rename_i hb;exact .inr ⟨b,j,rfl,hb,hp⟩
 have hat:∀p x,(⟨[(0,r)],own++cs,(bs++cs).length⟩:St).at p=some x->((⟨[(0,r)],own,bs.length⟩:St).at p=some x/\(∀b j,p=.bx b j->b<bs.length)/\aw G.σ ⟨#[v],[]⟩ w' p=aw G'.σ ⟨#[v],[]⟩ w' p)\/
   (∃b j,p=.bx b j/\¬b<bs.length/\(⟨[],bs++cs,lo⟩:St).at (.bx b j)=some x/\aw G.σ ⟨#[v],[]⟩ w' (.bx b j)=aw G.σ a w (.bx b j)):=λp x hp=>by
  cases p with
  |sl t=>exact .inl ⟨hp,(λb j e=>by cases e),rfl⟩
  |bx b j=>
   simp only[St.at] at hp
   cases hb:aa (own++cs) b with
   |none=>rw[hb] at hp;cases hp
   |some ds=>
    rw[hb] at hp
    by_cases d:b<bs.length
    .refine .inl ⟨by simp only[St.at,P b ds d hb];exact hp,(λu R e=>by cases e;exact d),?_⟩
     simp only[aw,U b d]
    .have f:=Q b ds d hb;refine .inr ⟨b,j,rfl,d,by simp only[St.at,f];exact hp,?_⟩
     simp only[aw];rw[bN (s.heap _ (h.blt f) (noC b ds d f))]
 refine⟨⟨G'.M,G.σ,λp=>match p with|.sl t=>G'.cl (.sl t)|.bx b j=>if b<bs.length then G'.cl (.bx b j) else G.cl (.bx b j)⟩,
  ⟨s.os,s.tape,s.output,s.size,s.le,λB hB d=>s.heap B hB (λk=>d (hFP B k)),λB hB d=>s.mem B hB (λk=>d (hFP B k)),s.kn⟩,I.ok,rfl,λp x hp=>?_,λb j x hp=>?_,λb ds hb=>?_,λb ds hb=>?_,λb u ds ds' hb f e=>?_,λp z l hp=>?_,λp q B hp hq=>?_,λp B hB b ds hb=>?_,λp B hB=>?_,rfl,by show (bs++cs).length<=(own++cs).length;omega,λ_ _=>rfl,?_⟩
 .rcases hat p x hp with ⟨g,_,m⟩|⟨b,j,rfl,_,g,m⟩
  .rw [m];exact(I.val p x g).mono (Hp.le_refl _) (by simp) (λb hb=>(U b (by rw[<-hol];exact hb)).symm)
  .rw [m,show (⟨[(0,r)],own++cs,(bs++cs).length⟩:St).bs.length=(bs++cs).length from hlen];exact(h.val _ _ g).mono s.le (zG _) (λ_ _=>rfl)
 .rcases hat _ x hp with ⟨g,_,m⟩|⟨u,R,e,_,g,m⟩
  .rw [m];exact I.one _ _ _ g
  .cases e;rw[m];exact h.one _ _ _ g
 .by_cases d:b<bs.length
  .have:=I.box b ds (P b ds d hb);simp only[U b d] at this;exact this
  .have f:=Q b ds d hb;obtain⟨vs,T,g,m⟩:=h.box b ds f;exact⟨vs,T,(s.heap _ (h.blt f) (noC b ds d f)).trans g,m⟩
 .by_cases d:b<bs.length
  .have:=I.bmem b ds (P b ds d hb);simp only[U b d] at this;exact⟨this.1,K _ this.2⟩
  .have f:=Q b ds d hb;exact⟨λo=>(s.mem _ (h.blt f) (noC b ds d f) o).trans ((h.bmem b ds f).1 o),.inl (.inl ⟨b,ds,f,rfl⟩)⟩
 .have key:∀c N es es',c<bs.length->¬N<bs.length->aa (own++cs) c=some es->aa (own++cs) N=some es'->G.σ c=G.σ N->False:=λc N es es' g m C D H=>by
   have A:=(I.bmem c es (P c es g C)).2;rw[U c g,H] at A;have W:=Q N es' m D;rcases A with A|A
   .exact noC N es' m W A
   .have:w.heap.size<=G.σ N:=A;have h8:G.σ N<w.heap.size:=h.blt W;omega
  by_cases d:b<bs.length
  .by_cases i:u<bs.length
   .exact I.inj b u ds ds' (P b ds d hb) (P u ds' i f) (by rw[U b d,U u i];exact e)
   .exact (key b u ds ds' d i hb f e).elim
  .by_cases i:u<bs.length
   .exact (key u b ds' ds i d f hb e.symm).elim
   .exact h.inj b u ds ds' (Q b ds d hb) (Q u ds' i f) e
 .rcases hat p _ hp with ⟨g,hp2,m⟩|⟨b,j,rfl,d,g,m⟩
  .obtain ⟨ad,k,C,D,H⟩:=I.own p z l g;refine⟨ad,k,m.trans C,D,?_⟩;rcases H with H|⟨B,hB,A,W⟩
   .exact .inl H
   .refine .inr ⟨B,?_,A,W.lt,W.cells,W.free,K _ W.mine⟩
    cases p with
    |sl t=>exact hB
    |bx b j=>simp only[if_pos (hp2 b j rfl)];exact hB
  .obtain ⟨ad,k,C,D,H⟩:=h.own _ _ _ g;refine⟨ad,k,m.trans C,D,?_⟩;rcases H with H|⟨B,hB,A,W⟩
   .exact .inl H
   .have L:=(h.cllt _ B hB).1;have J:=O b j B d hB;obtain⟨vs,T,h8,h9⟩:=W.cells;exact .inr ⟨B,by simp only[if_neg d];exact hB,A,W.lt,⟨vs,T,(s.heap B L J).trans h8,h9⟩,λo ho=>(s.mem B L J o).trans (W.free o ho),.inl (.inr (.inl ⟨b,j,hB⟩))⟩
 .have key:∀p' b j,G'.cl p'=some B->¬b<bs.length->G.cl (.bx b j)=some B->False:=λp' b j g m C=>by
   rcases V p' B g with D|D
   .exact O b j B m C D
   .have H:B<w.heap.size:=(h.cllt _ B C).1;omega
  rcases S p B hp with ⟨g,_⟩|⟨b,j,rfl,d,g⟩
  .rcases S q B hq with ⟨m,_⟩|⟨u,R,rfl,i,m⟩
   .exact I.clinj _ _ B g m
   .exact (key _ _ _ g i m).elim
  .rcases S q B hq with ⟨m,_⟩|⟨u,R,rfl,i,m⟩
   .exact (key _ _ _ m d g).elim
   .exact h.clinj _ _ B g m
 .rcases S p B hB with ⟨g,_⟩|⟨u,R,rfl,i,g⟩
  .by_cases d:b<bs.length
   .have:=I.clbox p B g b ds (P b ds d hb)
    rwa [U b d] at this
   .intro e;have Z:G.σ b=B:=e;have f:=Q b ds d hb;rcases V p B g with D|D
    .exact noC b ds d f (Z▸D)
    .have H:G.σ b<w.heap.size:=h.blt f;omega
  .by_cases d:b<bs.length
   .intro e;have Z:G.σ b=B:=e;have A:=(I.bmem b ds (P b ds d hb)).2;rw[U b d,Z] at A;rcases A with A|A
    .exact O u R B i g A
    .have H:B<w.heap.size:=(h.cllt _ B g).1;have:w.heap.size<=B:=A;omega
   .exact h.clbox _ B g b ds (Q b ds d hb)
 .rcases S p B hB with ⟨g,_⟩|⟨u,R,rfl,i,g⟩
  .exact ⟨(I.cllt p B g).1,K B (V p B g)⟩
  .exact ⟨ZT (h.cllt _ B g).1 s.size,.inl (.inr (.inl ⟨u,R,g⟩))⟩
 .refine ⟨λB o hs=>?_,λb x hb=>?_,λb u x x' hb f e=>?_,⟨[],rfl,.nil⟩,λb x hb j B o hj=>by
   by_cases d:b<bs.length
   .obtain ⟨q1,q2,q3⟩:=I.sp.rows b x (Y b x d hb) j B o hj;exact⟨q1,by simp only[if_pos d];exact q2,q3⟩
   .obtain ⟨q1,q2,q3⟩:=h.sp.rows b x (X b x d hb) j B o hj;have J:=O b j B d q2;have L:B<w.heap.size:=(h.cllt _ B q2).1;exact⟨(s.heap B L J).trans q1,by simp only[if_neg d];exact q2,λk=>(s.mem B L J k).trans (q3 k)⟩⟩
  .rcases hs with ⟨b,x,hb,e,ho⟩|⟨hm,_⟩
   .have Z:G.σ b=B:=e
    by_cases d:b<bs.length
    .obtain ⟨g,m,C⟩:=I.sp.ob B o (.inl ⟨b,x,Y b x d hb,(U b d).trans Z,ho⟩);refine⟨g,λp hp=>?_,K B C⟩;rcases S p B hp with ⟨D,_⟩|⟨c,j,rfl,i,D⟩
     .exact m _ D
     .rcases C with H|H
      .exact O c j B i D H
      .have A:B<w.heap.size:=(h.cllt _ B D).1;have:w.heap.size<=B:=H;omega
    .have f:=X b x d hb;obtain⟨g,m,_⟩:=h.sp.ob B o (.inl ⟨b,x,f,Z,ho⟩);have L:B<w.heap.size:=(zh.1 g).1;have J:=noL b x d f;rw[Z] at J;refine⟨(s.heap B L J).trans g,λp hp=>?_,.inl (.inr (.inr ⟨b,x,f,Z⟩))⟩;rcases S p B hp with ⟨D,_⟩|⟨c,j,rfl,i,D⟩
     .rcases V p B D with H|H
      .exact J H
      .omega
     .exact m _ D
   .cases hm
  .by_cases d:b<bs.length
   .obtain ⟨g,m,C⟩:=I.sp.base b x (Y b x d hb);exact⟨g,m,λc F=>(U c (by omega)).symm.trans (C c F)⟩
   .obtain ⟨g,m,C⟩:=h.sp.base b x (X b x d hb);exact⟨Hp.le_trans g s.le,m,C⟩
  .have Z:G.σ b=G.σ u:=e
   have key:∀c N y y',c<bs.length->¬N<bs.length->ah (own++cs) c=some y->ah (own++cs) N=some y'->G.σ c=G.σ N->False:=λc N y y' g m C D H=>by
    have A:=(I.sp.ob _ _ (.inl ⟨c,y,Y c y g C,rfl,rfl⟩)).2.2;rw[U c g,H] at A;have W:=X N y' m D;rcases A with A|A
    .exact noL N y' m W A
    .have h8:=(zh.1 (h.sp.ob _ _ (.inl ⟨N,y',W,rfl,rfl⟩)).1).1;have:w.heap.size<=G.σ N:=A;have h8:G.σ N<w.heap.size:=h8;omega
   by_cases d:b<bs.length
   .by_cases i:u<bs.length
    .exact I.sp.inj b u x x' (Y b x d hb) (Y u x' i f) (by rw[U b d,U u i];exact Z)
    .exact (key b u x x' d i hb f Z).elim
   .by_cases i:u<bs.length
    .exact (key u b x' x i d f hb Z.symm).elim
    .exact h.sp.inj b u x x' (X b x d hb) (X u x' i f) Z
end
theorem mB.frame{P:Program}{b:Nat}{y:List AV}{bs:List Box}{Q:AV->List Box->Prop}(h:mB P b y bs Q)(g:aj bs.length bs=true)(q:∀v∈y,v.lt bs.length=true)(t:∀r bs',Q r bs'->r.lt bs.length=true/\aj bs.length (bs'.take bs.length)=true)(cs:List Box):
  mB P b y (bs++cs) λr bs'=>∃own,Q r own/\bs'=own.take bs.length++cs:=by
 intro E G a0 w args lo c l k;have z:=c.hide g ⟨#[],[]⟩ rfl;obtain⟨f,tmps,assign,body,d,a⟩:=h _ _ _ w args _ z l (λj o v s=>(k j o v s).lt (q _ (zc o)));refine⟨f,tmps,assign,body,d,λrd n=>(a rd n).mono ?_⟩;rintro e w' ⟨v,r,bs',G',rfl,m,p⟩;obtain⟨hr,i⟩:=t r bs' m;have hle:bs.length<=bs'.length:=p.len;obtain⟨G2,x⟩:=aD.cut ⟨[(0,r)],bs',bs.length⟩ bs.length (zG _) hle (by simp only[fO,hr];rfl) i _ _ _ _ p
 obtain⟨G3,u⟩:=c.M8 (by simp;omega) x
 exact⟨v,r,_,G3,rfl,⟨bs',m,rfl⟩,u⟩
end Go.AM
namespace Go.AM
open Go.CK Go.RowKit
def yw(P:Program)(gf:FuncId)(lb:List AV)(xs:List (List AV)):Prop:=
 ∀(b:Nat) (bs:List Box) (J:List (List AV)->List Box->Prop) (Jx:List Box->Prop),b<bs.length->(∀pre bs',J pre bs'->bs'.length=bs.length/\aj bs.length bs'=true)->(∀bs',Jx bs'->bs'.length=bs.length/\aj bs.length bs'=true)->
  (∀pre y rest bs' cs,pre++y::rest=xs->J pre bs'->mB P b y (bs'++cs) λr a=>∃own,a=own++cs/\((r=.bool true/\J (pre++[y]) own)\/(r=.bool false/\Jx own)))->J [] bs->
  Sem P gf (.yl b::lb) bs λ_ bs'=>J xs bs'\/Jx bs'
theorem E0{m n:Nat}(a:m<=n){x:AV}(h:x.lt0 m=true):x.lt0 n=true:=by
 cases x<;>first|exact h|(simp only[AV.lt0,decide_eq_true_eq] at h|-;omega)
theorem A8{m n:Nat}(a:m<=n){x:AV}(h:x.lt1 m=true):x.lt1 n=true:=by
 cases x with
 |fn f xs ys=>
  simp only[AV.lt1,zD,zS] at h|-
  exact⟨λy b=>E0 a (h.1 y b),λy b=>E0 a (h.2 y b)⟩
 |_=>simp only[AV.lt1] at h|-;exact E0 a h
theorem NO{m n:Nat}(a:m<=n){x:AV}(h:x.lt2 m=true):x.lt2 n=true:=by
 cases x with
 |agg cs=>simp only[AV.lt2,zS] at h|-;exact λy b=>A8 a (h y b)
 |_=>simp only[AV.lt2] at h|-;exact A8 a h
theorem J6{m n:Nat}(a:m<=n){x:AV}(h:x.lt m=true):x.lt n=true:=by
 cases x with
 |agg cs=>simp only[AV.lt,zS] at h|-;exact λy b=>A8 a (h y b)
 |tup cs=>simp only[AV.lt,zS] at h|-;exact λy b=>NO a (h y b)
 |ept cs=>rfl
 |sl o l=>rfl
 |_=>simp only[AV.lt] at h|-;exact A8 a h
theorem bc{m n:Nat}(a:m<=n):∀{bs:List Box},aj m bs=true->aj n bs=true
 |[],_=>rfl
 |.cells cs::r,h=>by
  simp only[aj,zD,zS] at h|-
  exact⟨λx b=>J6 a (h.1 x b),bc a h.2⟩
 |.dead::r,h=>by simp only[aj] at h|-;exact bc a h
 |.loop x::r,h=>by simp only[aj] at h|-;exact bc a h
 |.mp x::r,h=>by simp only[aj] at h|-;exact bc a h
 |.mq x c::r,h=>by simp only[aj] at h|-;exact bc a h
 |.tab x::r,h=>by simp only[aj] at h|-;exact bc a h
 |.row ds::r,h=>by
  simp only[aj,zD,zS] at h|-;exact⟨λx b=>J6 a (h.1 x b),bc a h.2⟩
theorem aY{n:Nat}:∀{bs cs:List Box},aj n bs=true->aj n cs=true->aj n (bs++cs)=true
 |[],_,_,h=>h
 |.cells ds::r,cs,h,k=>by
  simp only[aj,zD,ze] at h|-
  exact⟨h.1,aY h.2 k⟩
 |.dead::r,cs,h,k=>by simp only[aj,ze] at h|-;exact aY h k
 |.loop x::r,cs,h,k=>by simp only[aj,ze] at h|-;exact aY h k
 |.mp x::r,cs,h,k=>by simp only[aj,ze] at h|-;exact aY h k
 |.mq x c::r,cs,h,k=>by simp only[aj,ze] at h|-;exact aY h k
 |.tab x::r,cs,h,k=>by simp only[aj,ze] at h|-;exact aY h k
 |.row ds::r,cs,h,k=>by
  simp only[aj,zD,ze] at h|-;exact⟨h.1,aY h.2 k⟩
theorem mv{own:List Box}(h:aj own.length own=true)(x:LB):aj (own.length+1) (own++[.loop x])=true:=aY (bc (Nat.le_succ _) h) rfl
theorem yw.use{P:Program}{gf:FuncId}{lb:List AV}{xs:List (List AV)}(o:yw P gf lb xs)(b:Nat)(bs:List Box)(J:List (List AV)->List Box->Prop)(Jx:List Box->Prop)(hb:b<bs.length)
  (hJ:∀pre bs',J pre bs'->bs'.length=bs.length/\aj bs.length bs'=true) (hJx:∀bs',Jx bs'->bs'.length=bs.length/\aj bs.length bs'=true) (l:∀y∈xs,∀v∈y,v.lt bs.length=true)
  (hr:∀pre y rest bs,pre++y::rest=xs->J pre bs->mB P b y bs λr bs'=>(r=.bool true/\J (pre++[y]) bs')\/(r=.bool false/\Jx bs')) (u:J [] bs):
  Sem P gf (.yl b::lb) bs λ_ bs'=>J xs bs'\/Jx bs':=by
 refine o b bs J Jx hb hJ hJx (λpre y rest bs' cs g k=>?_) u;obtain⟨d,i⟩:=hJ pre bs' k
 have:=(hr pre y rest bs' g k).frame (by rw[d];exact i) (λv m=>by rw[d];exact l y (by rw[<-g];simp) v m) (λr j a=>by
  rcases a with ⟨rfl,a⟩|⟨rfl,a⟩
  .obtain ⟨c,h⟩:=hJ _ _ a;exact⟨rfl,by rw[d,<-c,zz];rw[c];exact h⟩
  .obtain ⟨c,h⟩:=hJx _ a;exact⟨rfl,by rw[d,<-c,zz];rw[c];exact h⟩) cs
 intro E G a0 w args lo c h t;obtain⟨f,tmps,assign,body,s,q⟩:=this E G a0 w args lo c h t;refine⟨f,tmps,assign,body,s,λrd n=>(q rd n).mono ?_⟩;rintro e w' ⟨v,r,j,G',rfl,⟨own,a,rfl⟩,p⟩;refine⟨v,r,_,G',rfl,⟨own,?_,?_⟩,p⟩
 .have:own.length=bs'.length:=by
   rcases a with ⟨_,a⟩|⟨_,a⟩
   .rw [d];exact(hJ _ _ a).1
   .rw [d];exact(hJx _ a).1
  rw[<-this,zz]
 .exact a
theorem al.eqS{s t:St}(f:s.env=t.env)(e:s.bs=t.bs)(d:s.lo=t.lo):al s t:=by
 obtain⟨a,b,c⟩:=s;obtain⟨i,h,g⟩:=t;simp only at f e d;subst f e d;exact⟨aD.refl _⟩
end Go.AM
