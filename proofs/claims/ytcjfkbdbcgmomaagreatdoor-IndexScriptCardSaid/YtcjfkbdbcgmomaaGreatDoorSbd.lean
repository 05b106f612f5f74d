/-
  Texts of this aV joined (wip/gen/bundle.py),those declarations only that are needed:IxZ IxMi. By an AI agent.
-/
import Derived.Test.YtcjfkbdbcgmomaaGreatDoorSbc
set_option linter.unusedSimpArgs false
set_option linter.unusedVariables false
set_option maxRecDepth 100000
namespace Go.AM
open Go.CK Go.RowKit Go.Proofs
section
variable{E:Entry}{G:Gh}{s:St}{a:Act}{w:World}
theorem RS.yv(h:RS E G s a w){b:Nat}{cs:List AV}(hb:aa s.bs b=some cs):∃(vs:Array Value) (T:TypeId),w.heap[G.σ b]? =some (.cells vs T (0,0))/\cs.length<=vs.size/\w.shape? (G.σ b)=some (T,vs.size)/\(∀j,w.frozen? ⟨G.σ b,j,none⟩=false)/\∀j,j<cs.length->(w.cell? ⟨G.σ b,j,none⟩).isSome=true:=by
 obtain⟨vs,T,h1,h2⟩:=h.box b cs hb;have h3:w.heap[G.σ b]? =some (.cells vs.toList.toArray T (0,0)):=by simpa using h1
 refine⟨vs,T,h1,h2,by simp[World.shape?,h1],λj=>(nL h3 j).2,λj hj=>?_⟩
 rw[(nL h3 j).1,zA (by simpa using ZV hj h2)]
 rfl
theorem RS.qm(h:RS E G s a w){b:Nat}{cs:List AV}(hb:aa s.bs b=some cs)(o:Nat)(xs:List AV)(us:List Value)(hl:o+xs.length<=cs.length)(hu:us.length=xs.length)(h1:∀u∈us,u.oneCell'=true)
  (hv:∀j (hj:j<xs.length) u,us[j]? =some u->RV G.M G.σ s.bs.length xs[j] u):RS E G (s.aF b (setAt cs o xs)) a (w.setCells (G.σ b) o us):=by
 obtain⟨w',h5,h6⟩:=c8 (P:=Tryz.prog) us xs s w b o 0 cs h hb (by omega) hu h1 hv
 obtain⟨vs,T,c1,c2,_,c4,c5⟩:=h.yv hb;have h7:=run_storeCells_cells (P:=Tryz.prog) (G.σ b) o us 0 w (λj hj=>c5 _ (by omega)) (λj hj=>c4 _) h1
 rw[h5] at h7;cases h7;exact h6
theorem RS.Ee(h:RS E G s a w){b:Nat}{cs:List AV}(hbc:aa s.bs b=some cs)(cs2:List AV)(hl:cs2.length<=cs.length)(hc:∀(j:Nat) x,cs2[j]? =some x->x=.top\/(cs[j]? =some x/\x.aG=x)):
  RS E {G with σ:=λc=>if c=s.bs.length then G.σ b else G.σ c} ⟨s.env,s.bs.set b .dead++[.row cs2],s.lo⟩ a w:=by
 have hlt:=aB hbc
 have hnew:∀c ds,aa (s.bs.set b .dead++[.row cs2]) c=some ds->(c=s.bs.length/\ds=cs2)\/(c<s.bs.length/\c≠b/\aa s.bs c=some ds):=λc ds hd=>by
  rw[al,zn] at hd
  by_cases ec:c=s.bs.length
  .rw [if_pos ec,fi] at hd;split at hd
   .cases hd
   .cases hd;exact .inl ⟨ec,rfl⟩
  .rw [if_neg ec,bm] at hd;split at hd
   .cases hd
   .rename_i h0;exact .inr ⟨aB hd,h0,hd⟩
 refine h.reb (λc=>if c=s.bs.length then b else c) (by simp) (λc hc=>by rw[if_neg (by omega)]) (λc x hx=>eW (dq rfl hx)) (λc cs' hd=>?_) (λc c' ds ds' hd hd' e=>?_)
 .rcases hnew c cs' hd with ⟨rfl,rfl⟩|⟨h1,h2,h3⟩
  .simp only[if_true];refine⟨cs,hbc,trivial,hl,λj x hx=>?_⟩;rcases hc j x hx with h|⟨h,h'⟩
   .exact .inl h
   .exact .inr ⟨h,.inr h'⟩
  .simp only[show c≠s.bs.length by omega,if_false]
   exact⟨cs',h3,trivial,zG _,λj x hx=>.inr ⟨hx,.inl trivial⟩⟩
 .rcases hnew c ds hd with ⟨rfl,_⟩|⟨h1,h2,h3⟩<;>rcases hnew c' ds' hd' with ⟨rfl,_⟩|⟨h1',h2',h3'⟩
  .rfl
  .rw [if_pos rfl,if_neg (by omega)] at e
   exact absurd e.symm h2'
  .rw [if_pos rfl,if_neg (by omega)] at e
   exact absurd e h2
  .rw [if_neg (by omega),if_neg (by omega)] at e
   exact e
end
theorem xL{α:Type}{f:α->AV}{z k b:Nat}{l:List α}{bs:List Box}(hp:Plain f z)(hb:bs[b]? =some (aN f z k l))(hk:0<k)(hl:l.length<=k):aa bs b=some (cellsOf (l.map f)++List.replicate ((k-l.length)*z) .top)/\(cellsOf (l.map f)++List.replicate ((k-l.length)*z) AV.top).length=k*z:=by
 have hlen:(cellsOf (l.map f)++List.replicate ((k-l.length)*z) AV.top).length=k*z:=by
  rw[zC,hp.len,zg,<-ZN];congr 1;omega
 refine⟨?_,hlen⟩
 have hne:cellsOf (l.map f)++List.replicate ((k-l.length)*z) AV.top≠[]:=λe=>by
  rw[e] at hlen;have:=Nat.mul_pos hk hp.pos;simp at hlen;omega
 simp only[aa,hb,aN,ZH,fi,if_neg hne]
theorem uB{α:Type}{f:α->AV}{z:Nat}(hp:Plain f z)(l:List α){i:Nat}(hi:i<=l.length):cellsOf ((l.take i).map f)=(cellsOf (l.map f)).take (i*z)/\cellsOf ((l.drop i).map f)=(cellsOf (l.map f)).drop (i*z):=by
 have e:cellsOf (l.map f)=cellsOf ((l.take i).map f)++cellsOf ((l.drop i).map f):=by
  rw[<-dp,<-zw,List.take_append_drop]
 have hl:(cellsOf ((l.take i).map f)).length=i*z:=by rw[hp.len,zo,yL hi]
 rw[e];exact⟨by rw[<-hl,List.take_left],by rw[<-hl,List.drop_left]⟩
def oV{α:Type}(l:List α)(i:Nat)(x:α):List α:=l.take i++x::l.drop i
theorem fP{α:Type}(l:List α)(i:Nat)(x:α):(oV l i x).length=l.length+1:=by
 simp only[oV,zC,zo,zY,Zg];omega
theorem ub{α:Type}{f:α->AV}{z:Nat}(hp:Plain f z)(l:List α){i:Nat}(hi:i<=l.length)(x:α):cellsOf ((oV l i x).map f)=(cellsOf (l.map f)).take (i*z)++((f x).cells++(cellsOf (l.map f)).drop (i*z)):=by
 obtain⟨h1,h2⟩:=uB hp l hi;rw[oV,zw,zQ,dp,h1,cellsOf,h2]
theorem Aw{α:Type}{f:α->AV}{z:Nat}(hp:Plain f z)(l:List α){i:Nat}(hi:i<=l.length)(x:α)(pad:List AV)(hpad:z<=pad.length){j:Nat}(hj:j<(l.length+1)*z):
  (setAt (setAt (cellsOf (l.map f)++pad) ((i+1)*z) ((cellsOf (l.map f)).drop (i*z))) (i*z) (f x).cells)[j]? =(cellsOf ((oV l i x).map f))[j]?:=by
 have hA:=hp.len (f:=f) l;rw[ub hp l hi];generalize cellsOf (l.map f)=A at hA|-;have hz:=hp.sz x;have hiz:i*z<=l.length*z:=ZF _ hi;have e1:(i+1)*z=i*z+z:=Nat.succ_mul _ _;have e2:(l.length+1)*z=l.length*z+z:=Nat.succ_mul _ _;rw[cR,cR,aQ,Zg,zC,hA,hz,e1]
 by_cases h1:j<i*z
 .rw [if_neg (by omega),if_neg (by omega),zK (by omega),zK (by rw[zo];omega),Zd,if_pos h1]
 .have htl:(A.take (i*z)).length=i*z:=by rw[zo,hA,yL hiz]
  have e3:(A.take (i*z)++((f x).cells++A.drop (i*z)))[j]? =((f x).cells++A.drop (i*z))[j-i*z]?:=by
   rw[za (by rw[htl];omega),htl]
  rw[e3]
  by_cases h2:j<i*z+z
  .rw [if_pos ⟨by omega,h2,by omega⟩,zK (by omega)]
  .rw [if_neg (by omega),if_pos ⟨by omega,by omega,by omega⟩,za (by omega),List.getElem?_drop,List.getElem?_drop,hz]
   congr 1;omega
theorem Dt{α:Type}{f:α->AV}{z:Nat}(hp:Plain f z)(l:List α){i:Nat}(hi:i<=l.length)(x:α)(c0 pad:List AV)(hc:c0=(cellsOf (l.map f)).take (i*z)++pad)(hpad:(l.length+1)*z<=i*z+pad.length){j:Nat}(hj:j<(l.length+1)*z):
  (setAt (setAt c0 (i*z) (f x).cells) ((i+1)*z) ((cellsOf (l.map f)).drop (i*z)))[j]? =(cellsOf ((oV l i x).map f))[j]?:=by
 have hA:=hp.len (f:=f) l;rw[ub hp l hi];generalize cellsOf (l.map f)=A at hA hc|-;have hz:=hp.sz x;have hiz:i*z<=l.length*z:=ZF _ hi;have e1:(i+1)*z=i*z+z:=Nat.succ_mul _ _;have e2:(l.length+1)*z=l.length*z+z:=Nat.succ_mul _ _;have htl:(A.take (i*z)).length=i*z:=by rw[zo,hA,yL hiz]
 have hcl:c0.length=i*z+pad.length:=by rw[hc,zC,htl]
 rw[cR,cR,aQ,Zg,hcl,hA,hz,e1]
 by_cases h1:j<i*z
 .rw [if_neg (by omega),if_neg (by omega),hc,zK (by omega),zK (by omega)]
 .have e3:(A.take (i*z)++((f x).cells++A.drop (i*z)))[j]? =((f x).cells++A.drop (i*z))[j-i*z]?:=by
   rw[za (by rw[htl];omega),htl]
  rw[e3]
  by_cases h2:j<i*z+z
  .rw [if_neg (by omega),if_pos ⟨by omega,h2,by omega⟩,zK (by omega)]
  .rw [if_pos ⟨by omega,by omega,by omega⟩,za (by omega),List.getElem?_drop,List.getElem?_drop,hz]
   congr 1;omega
theorem Gd:cH zIt=some (.agg [.int .i64 0,.str ⟨#[]⟩,.sl .full []]):=by kernel_rfl
theorem IY{E:Entry}{G:Gh}{bs:List Box}{lo:Nat}{w:World}(h:RS E G ⟨[],bs,lo⟩ ⟨#[.tuple #[]],[]⟩ w)(he:0<E.nt){x:AV}{v:Value}(hv:RV G.M G.σ bs.length x v):RS E G ⟨[(0,x)],bs,lo⟩ ⟨#[v],[]⟩ w:=h.put (k:=0) he (x:=x) (v:=v) hv
set_option maxHeartbeats 1000000 in
theorem Hu{bs:List Box}{b vb k i:Nat}{l:List It}{x:It}(hb:bs[b]? =some (aN It.av 3 k l))(hv:bs[vb]? =some (aN It.av 3 1 [x]))(hne:vb≠b)(hi:i<=l.length)(hk:l.length<=k)(hn:l.length<=1000000):
  AM.Sem Tryz.prog 50 [.bsl b l.length k,.int .i64 i,.bsl vb 1 1] bs λr bs'=>∃k',l.length+1<=k'/\r=.bsl bs.length (l.length+1) k'/\bs'=bs.set b .dead++[aN It.av 3 k' (oV l i x)]:=by
 intro E G a0 w args lo hrs hlen hav;obtain⟨u,hu,rfl⟩:=Br hlen hav;obtain⟨ad,rfl,hbl,_,hkl,had⟩:=hu.cd;have hvc:=xL ay hv Zz (by simp)
 have hels:∀(m k:Nat) (c:Nat) (L:List It),bs[c]? =some (aN It.av 3 k L)->m=L.length->o6 3 bs (.bsl c m k) λn' ys'=>n'=L.length/\ys'=cellsOf (L.map It.av):=λm k c L hc hm=>by
  subst hm;simp only[o6,dy hc,ay.take];refine⟨⟨by rw[zC,ay.len];exact yD _ _,λx hx=>(ay.mem hx).1⟩,?_⟩
  exact⟨trivial,trivial⟩
 have hvr:RV G.M G.σ bs.length (.bsl vb 1 1) (.slice (some ⟨G.σ vb,0,none⟩) 1 1):=.bsl _ _ _ _ (zB.1 hv).1 (zG _) (by first|(unfold glim;omega)|(unfold lim;omega)) (λ_=>rfl)
 obtain⟨_,xv,cv,Bv,ov,xs,hxv,v1,v2,v3,v4,v5⟩:=hrs.els hvr (hels 1 1 vb [x] hv rfl)
 have hvs:∀j v,xs[j]? =some v->w.cell? ⟨G.σ vb,j,none⟩=some v:=λj v hj=>by
  have h1:=v5 j v hj;have h2:=v4 (by simp)
  rw[h2] at hxv;cases hxv
  rwa [ZJ] at h1
 obtain⟨_,xb,cb,Bb,ob,us,hxb,u1,u2,u3,u4,u5⟩:=hrs.els hu (hels l.length k b l hb rfl);obtain⟨i0,hi0,hz0,hz1,hzb⟩:=info_parts Tryz.yk;have hxs:xs.length=3:=by rw[v1];rfl
 by_cases hin:i=l.length
 .subst hin
  obtain⟨k',v',G',w',q1,q2,q3,q4⟩:=rA (P:=Tryz.prog) (e:=28) (zv:=zIt) (X:=Builtin.firstCells 3 1 (.slice (some ⟨G.σ vb,0,none⟩) 1 1)) (run:=(Builtin.append_ #[22,22] 22 #[.slice ad l.length k,.slice (some ⟨G.σ vb,0,none⟩) 1 1]).run Tryz.prog w) hrs.uK (z:=3) (by kernel_rfl) Gd (by kernel_rfl) (x:=.bsl b l.length k) (v:=.slice ad l.length k) hu (m:=l.length) (k:=k) (n:=1) (ob:=some b)
   (sX hb ⟨rfl,rfl,rfl,rfl⟩) (by omega) (by rw[zC,ay.len,zg,<-ZN];exact ZF _ (by omega)) (by first|(unfold glim;omega)|(unfold lim;omega)) (λy hy=>by rw[ay.take] at hy;exact(ay.mem hy).1) (ys:=cellsOf ([x].map It.av)) rfl v1 v2 v3 (bp w v1 (λ_=>rfl) (λj u hu=>by rw[ZJ];exact hvs j u hu)) (bp w.drew v1 (λ_=>rfl) (λj u hu=>by rw[ZJ];exact hvs j u hu))
   (λad' hv=>by cases hv;rw[kr (P:=Tryz.prog) Tryz.underlying22 hi0 hz0 hz1 hzb 22 ad l.length k (some ⟨G.σ vb,0,none⟩) 1 1 w (by first|(unfold glim;omega)|(unfold lim;omega)) (by omega)];cases ad<;>rfl)
  refine(Hz ad l.length k (G.σ vb) 1 w hk hn (v':=v') (w':=w') (λty=>q2)).mono ?_;rintro e w2 ⟨rfl,rfl⟩;refine⟨v',_,_,_,rfl,⟨k',q1,rfl,?_⟩,IY q3 Zz (by simpa[fA] using q4)⟩
  rw[ay.take,oV,ZA,zk,aN,zw,dp,zC];simp only[gm,zh];rfl
 .have hcs:∀j v,us[j]? =some v->w.cell? ⟨G.σ b,j,none⟩=some v:=λj v hj=>by
   have h1:=u5 j v hj;have h2:=u4 (by omega)
   rw[h2] at hxb;rw[had (by omega)] at hxb
   cases hxb
   rwa [ZJ] at h1
  obtain⟨hbc,hbl2⟩:=xL ay hb (by omega) hk
  obtain⟨Vb,Tb,b1,b2,b3,b4,b5⟩:=hrs.yv hbc;obtain⟨Vv,Tv,w1,w2,w3,w4,w5⟩:=hrs.yv hvc.1;have hσ:G.σ vb≠G.σ b:=λe=>hne (hrs.inj _ _ _ _ hvc.1 hbc e);obtain rfl:ad=some ⟨G.σ b,0,none⟩:=had (by omega)
  by_cases hroom:l.length+1<=k
  .refine (Dn (G.σ b) l.length k i (G.σ vb) 1 us xs w (by omega) hroom hn hσ u1 hxs hcs (λj hj=>b5 j (by rw[hbl2];exact hj)) b4 hvs u2 v2 Tv Tb Vv.size Vb.size w3 b3 (by rw[hbl2] at b2;omega) w4).mono ?_
   rintro e w' ⟨rfl,rfl⟩
   have h1:=hrs.uK.drew.qm hbc ((i+1)*3) ((cellsOf (l.map It.av)).drop (i*3)) (us.drop (i*3)) (by rw[hbl2,Zg,ay.len];omega) (by rw[Zg,Zg,u1,ay.len]) (λu hu=>u2 u (List.mem_of_mem_drop hu)) (λj hj u hu=>by
    rw[yC];exact u3 _ _ u (by rwa [List.getElem?_drop] at hu))
   have hc1:aa ((bs.set b (.cells (setAt (cellsOf (l.map It.av)++List.replicate ((k-l.length)*3) AV.top) ((i+1)*3) ((cellsOf (l.map It.av)).drop (i*3)))))) b=some (setAt (cellsOf (l.map It.av)++List.replicate ((k-l.length)*3) AV.top) ((i+1)*3) ((cellsOf (l.map It.av)).drop (i*3))):=by
    rw[aS hbc,if_pos rfl]
   have h2:=h1.qm hc1 (i*3) x.av.cells xs (by rw[aQ,hbl2,ay.sz];omega) (by rw[hxs,ay.sz]) v2 (λj hj u hu=>by
    have:=v3 j (by rw[List.map_singleton,cellsOf,cellsOf,zz];exact hj) u hu
    simpa[St.aF,cellsOf] using this)
   have hc2:=hc1
   have h3:=h2.Ee (b:=b) (by simp only[St.aF];rw[aS hc1,if_pos rfl]) (cellsOf ((oV l i x).map It.av)++List.replicate ((k-(l.length+1))*3) .top) (by
    rw[aQ,aQ,hbl2,zC,ay.len,fP,zg,<-ZN];exact ZF _ (by omega)) (λj y hy=>by
    by_cases hj:j<(l.length+1)*3
    .rw [zK (by rw[ay.len,fP];exact hj)] at hy
     refine .inr ⟨?_,(ay.mem (zE hy)).1⟩;rw[Aw ay l hi x _ (by rw[zg];omega) hj]
     exact hy
    .rw [za (by rw[ay.len,fP];omega)] at hy
     exact .inl (Zb.1 (zE hy)).2)
   refine⟨_,_,_,_,rfl,⟨k,hroom,rfl,?_⟩,IY h3 Zz (.bsl _ _ _ _ ?_ ?_ ?_ ?_)⟩
   .simp only[St.aF,List.set_set,aN,fP]
   .simp [St.aF]
   .exact hroom
   .first|(unfold glim;omega)|(unfold lim;omega)
   .intro _;simp[St.aF]
  .refine (Fy (G.σ b) l.length k i (G.σ vb) 1 us xs w (by omega) hk (by omega) hn u1 hxs hcs hvs u2 v2).mono ?_
   rintro e w' ⟨K,ROW,hK,hROW,rfl,rfl⟩;have htl:(us.take (i*3)).length=i*3:=by rw[zo,u1];omega
   have hRl:ROW.toList.length=K*3:=by
    rw[hROW];simp only[Array.toList_append,zC,ZK,List.size_toArray,vw,htl,Nat.sub_mul];omega
   have hz3:∀n,∀u∈(Builtin.zeroCells zIt.cells n).toList,u.oneCell'=true:=λn u hu=>by
    simp only[Builtin.zeroCells,Array.toList_map,zl] at hu;obtain⟨j,hj,rfl⟩:=hu;obtain⟨z1,z2,_⟩:=(RV.flat (σ:=λ_=>0) (n:=0) (dW (M:=G.M) Gd)).cells (by kernel_rfl)
    have hp:0<zIt.cells.size:=by decide
    have hlt:j %zIt.cells.size<zIt.cells.size:=yX _ hp;have hm:=z2 (zIt.cells[j %zIt.cells.size]'hlt) (by simp)
    rw[getElem!_pos zIt.cells _ hlt];exact hm
   have h0:=hrs.uK.nV (.row ((cellsOf (l.map It.av)).take (i*3)++List.replicate (K*3-i*3) .top)) ((cellsOf (l.map It.av)).take (i*3)++List.replicate (K*3-i*3) .top) rfl (λds e=>by
    rw[fi] at e;split at e
    .cases e
    .cases e;rfl) ROW.toList 28 (by rw[hRl,zC,zo,ay.len,zg];omega) (λu hu=>by
    rw[hROW] at hu;simp only[Array.toList_append,zZ] at hu;rcases hu with (hu|hu)|hu
    .exact u2 u (List.mem_of_mem_take (by simpa using hu))
    .exact hz3 _ u hu
    .exact hz3 _ u hu) (λj hj u hu=>by
    by_cases hj1:j<i*3
    .rw [ZI (by rw[zo,ay.len];omega),Zs]
     refine u3 j _ u ?_;rw[hROW] at hu;simp only[Array.toList_append,zh] at hu;rw[zK (by omega),Zd,if_pos hj1] at hu
     exact hu
    .rw [ZZ (by rw[zo,ay.len];omega),Zw]
     exact .flat (.top _))
   obtain⟨c0,hc0⟩:∃c0,c0=(cellsOf (l.map It.av)).take (i*3)++List.replicate (K*3-i*3) AV.top:=⟨_,rfl⟩;rw[<-hc0] at h0;have hA:=ay.len l;have hcl:c0.length=K*3:=by rw[hc0,zC,zo,hA,zg];omega
   have hc0n:c0≠[]:=λe=>by rw[e] at hcl;simp at hcl;omega
   have hb0:aa (bs++[Box.row c0]) bs.length=some c0:=by rw[al,if_pos rfl,fi,if_neg hc0n]
   have h1:=h0.drew.qm hb0 (i*3) x.av.cells xs (by rw[hcl,ay.sz];omega) (by rw[hxs,ay.sz]) v2 (λj hj u hu=>by
    have:=v3 j (by rw[List.map_singleton,cellsOf,cellsOf,zz];exact hj) u hu
    have h9:RV G.M G.σ bs.length (x.av.cells[j]) u:=by simpa[cellsOf] using this
    exact h9.mono (Hp.le_refl _) (by simp) (λc hc=>by dsimp only;rw[if_neg (by omega)]))
   have hb1:aa ((bs++[Box.row c0]).set bs.length (Box.cells (setAt c0 (i*3) x.av.cells))) bs.length=some (setAt c0 (i*3) x.av.cells):=by rw[aS hb0,if_pos rfl]
   have h2:=h1.drew.qm hb1 ((i+1)*3) ((cellsOf (l.map It.av)).drop (i*3)) (us.drop (i*3)) (by rw[aQ,hcl,Zg,hA];omega) (by rw[Zg,Zg,u1,hA]) (λu hu=>u2 u (List.mem_of_mem_drop hu)) (λj hj u hu=>by
    have h9:RV G.M G.σ bs.length (((cellsOf (l.map It.av)).drop (i*3))[j]) u:=by
     rw[yC];exact u3 _ _ u (by rwa [List.getElem?_drop] at hu)
    exact h9.mono (Hp.le_refl _) (by simp[St.aF]) (λc hc=>by dsimp only;rw[if_neg (by omega)]))
   have h3:=h2.reb (bs':=bs.set b .dead++[.row (cellsOf ((oV l i x).map It.av)++List.replicate ((K-(l.length+1))*3) .top)]) (σ':=λc=>if c=bs.length then w.heap.size else G.σ c) id (by simp[St.aF]) (λc hc=>rfl) (λc y hy=>by
    have h9:=eW (dq rfl hy);have hlt:=aI h9;simp only[ag,St.aF] at h9|-;rw[Zh (by omega),Zh (by omega),zK hlt]
    exact h9) (λc cs' hc=>by
    simp only[id,St.aF];rw[al,zn] at hc
    by_cases ec:c=bs.length
    .rw [if_pos ec,fi] at hc;subst ec;rw[aS hb1,if_pos rfl];split at hc
     .cases hc
     .cases hc;refine⟨_,rfl,by simp,?_,λj y hy=>?_⟩
      .rw [aQ,aQ,hcl,zC,ay.len,fP,zg,<-ZN];exact ZF _ (by omega)
      .by_cases hj:j<(l.length+1)*3
       .rw [zK (by rw[ay.len,fP];exact hj)] at hy
        refine .inr ⟨?_,.inl trivial⟩;rw[Dt ay l hi x c0 _ hc0 (by rw[zg];omega) hj]
        exact hy
       .rw [za (by rw[ay.len,fP];omega)] at hy
        exact .inl (Zb.1 (zE hy)).2
    .rw [if_neg ec,bm] at hc;split at hc
     .cases hc
     .have hlt:=aB hc;refine⟨cs',?_,by simp[ec],zG _,λj x hx=>.inr ⟨hx,.inl trivial⟩⟩
      rw[aS hb1,if_neg ec,aS hb0,if_neg ec,al,if_neg ec];exact hc) (λc c' _ _ _ _ e=>e)
   simp only[St.aF] at h3;refine⟨_,_,bs.set b .dead++[aN It.av 3 K (oV l i x)],_,rfl,⟨K,hK,rfl,rfl⟩,IY (E:=bB G bs w 1) (G:={M:=G.M,σ:=λc=>if c=bs.length then w.heap.size else G.σ c,cl:=fF G.cl}) ?_ Zz (.bsl _ _ _ _ ?_ ?_ ?_ ?_)⟩
   .have e4:aN It.av 3 K (oV l i x)=.row (cellsOf ((oV l i x).map It.av)++List.replicate ((K-(l.length+1))*3) AV.top):=by simp only[aN,fP]
    rw[e4];simp only[if_true] at h3;exact h3
   .simp
   .exact hK
   .first|(unfold glim;omega)|(unfold lim;omega)
   .intro _;simp
theorem BJ{α:Type}{f:α->AV}{z:Nat}(hp:Plain f z)(l:List α){i:Nat}(hi:i<l.length)(pad Z:List AV){j:Nat}(hj:j<(l.length-1)*z):
  (setAt (setAt (cellsOf (l.map f)++pad) (i*z) ((cellsOf (l.map f)).drop ((i+1)*z))) ((l.length-1)*z) Z)[j]? =(cellsOf ((l.take i++l.drop (i+1)).map f))[j]?:=by
 have hA:=hp.len (f:=f) l;have h1:=(uB hp l (Nat.le_of_lt hi)).1;have h2:=(uB hp l (i:=i+1) hi).2;rw[zw,dp,h1,h2];generalize cellsOf (l.map f)=A at hA|-;have hiz:(i+1)*z<=l.length*z:=ZF _ hi;have e1:(i+1)*z=i*z+z:=Nat.succ_mul _ _;have e2:(l.length-1)*z=l.length*z-z:=by rw[Nat.sub_mul,yQ]
 have htl:(A.take (i*z)).length=i*z:=by rw[zo,hA];omega
 rw[cR,cR,aQ,Zg,zC,hA];rw[if_neg (by omega)]
 by_cases h1:j<i*z
 .rw [if_neg (by omega),zK (by omega),zK (by omega),Zd,if_pos h1]
 .rw [if_pos ⟨by omega,by omega,by omega⟩,za (by omega),htl]
set_option maxHeartbeats 1000000 in
theorem H8{bs:List Box}{b k i:Nat}{l:List It}(hb:bs[b]? =some (aN It.av 3 k l))(hi:i<l.length)(hk:l.length<=k)(hn:l.length<=1000000):
  AM.Sem Tryz.prog 56 [.bsl b l.length k,.int .i64 i,.int .i64 ((i:Int)+1)] bs λr bs'=>r=.bsl bs.length (l.length-1) k/\bs'=bs.set b .dead++[aN It.av 3 k (l.take i++l.drop (i+1))]:=by
 intro E G a0 w args lo hrs hlen hav
 obtain⟨u,hu,rfl⟩:∃u,RV G.M G.σ bs.length (.bsl b l.length k) u/\args=[u,.int .i64 i,.int .i64 ((i:Int)+1)]:=by
  match args,hlen with
  |[x,y,z],_=>
   have h0:=hav 0 (by simp) x rfl
   have h1:=hav 1 (by simp) y rfl
   have h2:=hav 2 (by simp) z rfl
   simp only[ZS,Zj] at h0 h1 h2;exact⟨x,h0,by rw[h1.aA,h2.aA]⟩
 obtain⟨ad,rfl,hbl,_,hkl,had⟩:=hu.cd
 have hels:o6 3 bs (.bsl b l.length k) λn' ys'=>n'=l.length/\ys'=cellsOf (l.map It.av):=by
  simp only[o6,dy hb,ay.take];refine⟨⟨by rw[zC,ay.len];exact yD _ _,λx hx=>(ay.mem hx).1⟩,?_⟩
  exact⟨trivial,trivial⟩
 obtain⟨_,xb,cb,Bb,ob,us,hxb,u1,u2,u3,u4,u5⟩:=hrs.els hu hels
 have hcs:∀j v,us[j]? =some v->w.cell? ⟨G.σ b,j,none⟩=some v:=λj v hj=>by
  have h1:=u5 j v hj;have h2:=u4 (by omega)
  rw[h2] at hxb;rw[had (by omega)] at hxb
  cases hxb
  rwa [ZJ] at h1
 obtain⟨hbc,hbl2⟩:=xL ay hb (by omega) hk
 obtain⟨Vb,Tb,b1,b2,b3,b4,b5⟩:=hrs.yv hbc;obtain rfl:ad=some ⟨G.σ b,0,none⟩:=had (by omega)
 have hlen2:(l.take i++l.drop (i+1)).length=l.length-1:=by rw[zC,zo,Zg];omega
 refine(del3 (G.σ b) l.length k i us w hi hk hn u1 hcs (λj hj=>b5 j (by rw[hbl2];exact hj)) b4 u2).mono ?_
 rintro e w' ⟨rfl,rfl⟩
 have h1:=hrs.uK.drew.qm hbc (i*3) ((cellsOf (l.map It.av)).drop ((i+1)*3)) (us.drop ((i+1)*3)) (by rw[hbl2,Zg,ay.len];omega) (by rw[Zg,Zg,u1,ay.len]) (λu hu=>u2 u (List.mem_of_mem_drop hu)) (λj hj u hu=>by
  rw[yC];exact u3 _ _ u (by rwa [List.getElem?_drop] at hu))
 have hc1:aa ((bs.set b (.cells (setAt (cellsOf (l.map It.av)++List.replicate ((k-l.length)*3) AV.top) (i*3) ((cellsOf (l.map It.av)).drop ((i+1)*3)))))) b=some (setAt (cellsOf (l.map It.av)++List.replicate ((k-l.length)*3) AV.top) (i*3) ((cellsOf (l.map It.av)).drop ((i+1)*3))):=by
  rw[aS hbc,if_pos rfl]
 have h2:=h1.qm hc1 ((l.length-1)*3) [.top,.top,.top] zl3 (by rw[aQ,hbl2];simp only[zY,ZR];omega) rfl (by intro v hv;simp[zl3] at hv;rcases hv with rfl|rfl|rfl<;>rfl) (λj hj u hu=>by
  have e:([AV.top,AV.top,AV.top]:List AV)[j]=.top:=by
   match j,hj with
   |0,_=>rfl
   |1,_=>rfl
   |2,_=>rfl
  rw[e];exact .flat (.top _))
 have h3:=h2.Ee (b:=b) (by simp only[St.aF];rw[aS hc1,if_pos rfl]) (cellsOf ((l.take i++l.drop (i+1)).map It.av)++List.replicate ((k-(l.length-1))*3) .top) (by
  rw[aQ,aQ,hbl2,zC,ay.len,hlen2,zg,<-ZN];exact ZF _ (by omega)) (λj y hy=>by
  by_cases hj:j<(l.length-1)*3
  .rw [zK (by rw[ay.len,hlen2];exact hj)] at hy
   refine .inr ⟨?_,(ay.mem (zE hy)).1⟩;rw[BJ ay l hi _ _ hj];exact hy
  .rw [za (by rw[ay.len,hlen2];omega)] at hy
   exact .inl (Zb.1 (zE hy)).2)
 refine⟨_,_,_,_,rfl,⟨rfl,?_⟩,IY h3 Zz (.bsl _ _ _ _ ?_ ?_ ?_ ?_)⟩
 .simp only[St.aF,List.set_set,aN,hlen2]
 .simp [St.aF]
 .omega
 .first|(unfold glim;omega)|(unfold lim;omega)
 .intro _;simp[St.aF]
end Go.AM
namespace Go.CK
open Go.AM Go.Proofs
def ed(its:List It)(i:It):Int:=if i.id<1 then 2 else if i.atom.right=false then 2 else if hO its i.id=true then 8 else if 500<=its.length then 6 else 0
theorem IQ{α:Type}{l:List α}{i:Nat}{x:α}(h:l[i]? =some x):l.set i x=l:=by
 refine Zr λj=>?_
 by_cases e:i=j
 .subst e;rw[List.getElem?_set_self (zB.1 h).1,h]
 .rw [Zh e]
theorem dv.app{V:Nat->Prop}{bs:List Box}{p:Nat}{acc:List Ac}{its:List It}(h:dv V bs p acc its)(X:List Box):dv V (bs++X) p acc its:=by
 obtain⟨bi,ki,t,kt,cs,h1,h2,h3,h4,h5⟩:=h;refine⟨bi,ki,t,kt,cs,h1.mono λb hb=>?_,h2,h3,h4,h5⟩;obtain⟨l1,l2,l3,l4⟩:=h1.lt;refine zK ?_;rcases hb with rfl|rfl|rfl|hb
 .exact l1
 .exact l2
 .exact l3
 .exact l4 _ hb
set_option maxHeartbeats 2000000 in
theorem nu{V:Nat->Prop}{bs:List Box}{p:Nat}{acc:List Ac}{its:List It}{i:It}(h:dv V bs p acc its)(hV:∀b,V b->b<bs.length)(ha:c7 acc its)(he:rP acc i)(hl:i.atom.args.length<=10000000):
  AM.Sem Tryz.prog 14 [.ptr p 0,i.av] bs λr bs'=>r=.int .i64 (ed its i)/\dv V bs' p acc (if ed its i=0 then aY its i else its)/\bs.length<=bs'.length/\∀b,b<bs.length->V b->b≠p->bs'[b]? =bs[b]?:=by
 obtain⟨bi,ki,t,kt,cs,hI,n1,n2,n3,n4⟩:=h;obtain⟨l1,l2,l3,l4⟩:=hI.lt;have hfew:=ha.few;have hcl:=hI.len;have hacc:=ha.accs;have hra:=qf i.atom (by omega)
 have hI1:=hI.snoc (.cells [.int .i64 i.id,.str i.atom.name,.sl .no (i.atom.args.map Tm.av)]);obtain⟨B1,hB1⟩:∃B1,B1=bs++[Box.cells [.int .i64 i.id,.str i.atom.name,.sl .no (i.atom.args.map Tm.av)]]:=⟨_,rfl⟩;have hlen1:B1.length=bs.length+1:=by rw[hB1];simp
 have hbox:aa B1 bs.length=some [.int .i64 i.id,.str i.atom.name,.sl .no (i.atom.args.map Tm.av)]:=by rw[hB1,al,if_pos rfl];rfl
 have hbx:B1[bs.length]? =some (.cells [.int .i64 i.id,.str i.atom.name,.sl .no (i.atom.args.map Tm.av)]):=by rw[hB1];simp
 have hold1:∀b,b<bs.length->B1[b]? =bs[b]?:=λb hb=>by rw[hB1,zK hb]
 rw[<-hB1] at hI1
 have hfin:∀v:Int,v≠0->dv V B1 p acc (if v=0 then aY its i else its)/\bs.length<=B1.length/\∀b,b<bs.length->V b->b≠p->B1[b]? =bs[b]?:=λv h0=>by
  rw[if_neg h0];exact⟨⟨bi,ki,t,kt,cs,hI1,n1,n2,n3,n4⟩,by omega,λb hb _ _=>hold1 b hb⟩
 refine j5 (by simp) ?_
 conv=>whnf
 try dsimp only
 repeat' (first|refine gC (cN ?_)|refine gB (.last ?_))<;>(conv=>whnf;try dsimp only)
 rw[<-hB1];refine ah.raw (wv hI1 ha.asc (by omega)) ?_
 rintro r b' ⟨rfl,rfl⟩
 by_cases h1:i.id<1
 .have e:ed its i=2:=by rw[ed,if_pos h1]
  rw[e]
  conv=>whnf
  try dsimp only
  repeat' (first|(refine gC ?_;first|refine cY ?_|refine gD (cI ?_))|refine gB (.of (by assumption) ?_))<;>(conv=>whnf;try dsimp only)
  exact⟨_,au.refl _,.inl ⟨rfl,hfin _ (by decide)⟩⟩
 .cases hr:i.atom.right with
  |false=>
   rw[hr] at hra;have e:ed its i=2:=by rw[ed,if_neg h1,if_pos hr]
   rw[e]
   conv=>whnf
   try dsimp only
   repeat' (first|refine gF (ah.fn (hra) ?_)|(refine gC ?_;first|refine cN ?_|refine .not ?_|refine gD (cJ ?_))|refine gB (.of (by assumption) ?_))<;>(conv=>whnf;try dsimp only)
   exact⟨_,au.refl _,.inl ⟨rfl,hfin _ (by decide)⟩⟩
  |true=>
   rw[hr] at hra
   cases hh:hO its i.id with
   |true=>
    have e:ed its i=8:=by rw[ed,if_neg h1,if_neg (by rw[hr];decide),if_pos hh]
    rw[e]
    conv=>whnf
    try dsimp only
    repeat' (first|refine gF (ah.fn (hra) ?_)|(refine gC ?_;first|refine cY ?_|refine .not ?_|refine gD (cJ ?_))|refine gB (.of (by assumption) ?_))<;>(conv=>whnf;try dsimp only)
    exact⟨_,au.refl _,.inl ⟨rfl,hfin _ (by decide)⟩⟩
   |false=>
    have hb0:aa b' p=some [slA Ac.av acc,.bsl bi its.length ki,.bsl t cs.length kt]:=by simp[aa,hI1.str,Box.cs?]
    by_cases h5:500<=its.length
    .have e:ed its i=6:=by rw[ed,if_neg h1,if_neg (by rw[hr];decide),if_neg (by rw[hh];decide),if_pos h5]
     rw[e]
     conv=>whnf
     try dsimp only
     repeat' (first|refine gF (ah.fn (hra) ?_)|(refine gC ?_;first|refine cY ?_|refine cN ?_|refine .not ?_|(refine gD ?_;first|refine cI ?_|refine cJ ?_))|refine gB (.of (by assumption) ?_))<;>(conv=>whnf;try dsimp only)
     exact⟨_,au.refl _,.inl ⟨rfl,hfin _ (by decide)⟩⟩
    .have e:ed its i=0:=by rw[ed,if_neg h1,if_neg (by rw[hr];decide),if_neg (by rw[hh];decide),if_neg h5]
     rw[e];clear hfin
     conv=>whnf
     try dsimp only
     repeat' (first|(refine gF ?_;first|refine ah.fn (hra) ?_|refine ah.fn (xY i he.nds) ?_)|(refine gC ?_;first|refine cY ?_|refine cN ?_|refine .not ?_|refine gD (cJ ?_))|refine gB (.of (by assumption) ?_))<;>(conv=>whnf;try dsimp only)
     refine⟨?_⟩;rw[IQ hbx]
     conv=>whnf
     try dsimp only
     repeat' refine gB (.of (by assumption) ?_)<;>(conv=>whnf;try dsimp only)
     refine u9.one ay (λy=>⟨rfl,rfl⟩) (x:=i) rfl ?_
     conv=>whnf
     try dsimp only
     repeat' refine gPr (pT ?_)<;>(conv=>whnf;try dsimp only)
     have hbil:=hI1.lt.2.1;refine ah.raw (Hu (b:=bi) (vb:=b'.length) (x:=i) (l:=its) (by rw[zK hbil];exact hI1.items) (by simp) (by omega) (Ej _ _) hI1.le (by omega)) ?_
     rintro r b8 ⟨k',hk',rfl,rfl⟩
     have hpbi:p≠bi:=λe=>by
      have h1:=hI1.str;have h2:=hI1.items;rw[e,h2] at h1;cases h1
     conv=>whnf
     refine⟨.inr ?_,?_⟩
     .conv=>whnf
      repeat' first|exact True.intro|refine And.intro (jw (by omega) (by first|(simp;done)|(simp;omega))) ?_
     conv=>whnf
     try dsimp only
     skip;obtain⟨B4,hB4⟩:∃B4,B4=(b'++[aN It.av 3 1 [i]]).set bi Box.dead++[aN It.av 3 k' (oV its (iz its i.id) i)]:=⟨_,rfl⟩;have hlen4:B4.length=b'.length+2:=by rw[hB4];simp
     obtain⟨hp1,hp2,hp3,hp4⟩:=hI1.lt
     have hold4:∀b,b<b'.length->b≠bi->B4[b]? =b'[b]?:=λb hb hne=>by
      rw[hB4,zK (by simp;omega),Zh (Ne.symm hne),zK hb]
     have hrow4:B4[b'.length+1]? =some (aN It.av 3 k' (aY its i)):=by
      rw[hB4,za (by simp),Bq ha.asc]
      simp[oV]
     rw[show (b'++[aN It.av 3 1 [i]]).length=b'.length+1 by simp,<-hB4]
     clear hB4;refine ku.of (cs:=[slA Ac.av acc,.bsl bi its.length ki,.bsl t cs.length kt]) (by simp[aa,hold4 p hp1 hpbi,hI1.str,Box.cs?]) ?_
     conv=>whnf
     try dsimp only
     skip;refine⟨?_⟩;obtain⟨B5,hB5⟩:∃B5,B5=B4.set p (Box.cells [.sl .no (acc.map Ac.av),AV.bsl (b'.length+1) (its.length+1) k',AV.bsl t cs.length kt]):=⟨_,rfl⟩;rw[<-hB5];have hlen5:B5.length=b'.length+2:=by rw[hB5,zn,hlen4]
     have hstr5:B5[p]? =some (.cells [slA Ac.av acc,.bsl (b'.length+1) (aY its i).length k',.bsl t cs.length kt]):=by rw[hB5,List.getElem?_set_self (by omega),nX]
     have hold5:∀b,b<b'.length->b≠bi->b≠p->B5[b]? =b'[b]?:=λb h1 h2 h3=>by rw[hB5,Zh (Ne.symm h3),hold4 b h1 h2]
     have hrow5:B5[b'.length+1]? =some (aN It.av 3 k' (aY its i)):=by rw[hB5,Zh (by omega)];exact hrow4
     clear hB5
     have hI5:cW B5 p acc (aY its i) (λ_=>its) (b'.length+1) k' t kt cs:=by
      refine⟨hstr5,hrow5,by rw[nX];exact hk',?_,hI1.tle,hI1.len,hI1.nod,λk c a hc ha=>?_⟩
      .rw [hold5 t hp3 n4 (λe=>by
        have h1:=hI1.str;have h2:=hI1.tabs;rw[e,h1] at h2;cases h2)]
       exact hI1.tabs
      .have hcm:=zE hc;obtain⟨m1,m2,m3⟩:=hI1.ne hcm;rw[hold5 c (hp4 c hcm) m2 m1];exact hI1.tab k c a hc ha
     have hbx5:aa B5 bs.length=some [.int .i64 i.id,.str i.atom.name,.sl .no (i.atom.args.map Tm.av)]:=by
      simp[aa,hold5 bs.length (by omega) (by omega) (by omega),hbx,Box.cs?]
     conv=>whnf
     try dsimp only
     repeat' refine gB (.of (by assumption) ?_)<;>(conv=>whnf;try dsimp only)
     refine ah.raw (tY hI5 (λk=>⟨ha.asc,hfew⟩) he hacc ha.poss) ?_;rintro r b9 ⟨rfl,s1,s2,s3⟩
     conv=>whnf
     try dsimp only
     skip;refine⟨_,au.refl _,.inl ⟨rfl,?_,?_,λb hb hVb hbp=>?_⟩⟩
     .rw [if_pos rfl];exact⟨b'.length+1,k',t,kt,cs,s1,λh=>by have:=hV _ h;omega,n2,n3,by omega⟩
     .show bs.length<=b9.length;omega
     .show b9[b]? =bs[b]?;rw[s3 b (by omega) (λhc=>n3 b hc hVb),hold5 b (by omega) (λe=>n1 (e▸hVb)) hbp,hold1 b hb]
end Go.CK
