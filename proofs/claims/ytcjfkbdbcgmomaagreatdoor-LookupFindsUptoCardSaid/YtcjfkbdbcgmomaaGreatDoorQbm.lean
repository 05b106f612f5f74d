/-
  By an AI agent.
-/
import Derived.Test.YtcjfkbdbcgmomaaGreatDoorQbl
set_option linter.unusedSimpArgs false
set_option linter.unusedVariables false
set_option maxRecDepth 100000
namespace Go.AM
open Go.CK Go.RowKit Go.Proofs Go.Lib
variable{P:Program}
theorem Tryz.Fl:(Tryz.prog.info? 102).map (λi=>(i.zero,i.size,i.bytes))=some (some (.agg #[.int .i64 0,.int .i64 0,.int .i64 0,.string ⟨#[]⟩,.slice none 0 0]),5,64):=by kernel_rfl
set_option maxHeartbeats 1000000 in
theorem Fk(b n c i vb p:Nat)(us xs:List Value)(w:World)(hi:i<n)(I:n+1<=c)(U:n<=1000000)(q:vb≠b)(F:us.length=n*5)(E:xs.length=5)
  (M:∀j v,us[j]? =some v->w.cell? ⟨b,j,none⟩=some v) (l:∀j,j<c*5->(w.cell? ⟨b,j,none⟩).isSome=true) (t:∀j,w.frozen? ⟨b,j,none⟩=false)
  (hvs:∀j v,xs[j]? =some v->w.cell? ⟨vb,j,none⟩=some v) (Q:∀v∈us,v.oneCell'=true) (O:∀v∈xs,v.oneCell'=true)
  (T S:TypeId) (C B:Nat) (H:w.shape? vb=some (T,C)) (G:w.shape? b=some (S,B)) (K:B≠0) (u:∀j,w.frozen? ⟨vb,j,none⟩=false):
  Calls Tryz.prog 215 #[.slice (some ⟨b,0,none⟩) n c,.int .i64 i,.slice (some ⟨vb,0,none⟩) 1 p] w λe w'=>
   e=.returned (.slice (some ⟨b,0,none⟩) (n+1) c)/\w'=(w.drew.setCells b ((i+1)*5) (us.drop (i*5))).setCells b (i*5) xs:=by
 have X:¬((i:Int)=(n:Int)):=by omega
 have hin:i<=n:=by omega
 obtain⟨i0,L,Y,D,V⟩:=info_parts Tryz.Fl;have r:(Tryz.prog.info? 102).map (·.size)=some 5:=by rw[L];simp[D]
 have J:∀lb R,(callFunc 241 #[.slice (some ⟨vb,0,none⟩) 1 p,.slice (some ⟨b,(i+1)*5,none⟩) lb R]).run Tryz.prog w=.ok (.value (.bool false)) w:=λlb R=>by
  rw[run_callFunc_extern Tryz.func241 (by kernel_rfl) (by kernel_rfl) (by kernel_rfl) (e:=Extern.SlicesOverlaps.overlaps #[29,29] #[4]) (by kernel_rfl),
   Lib.run_overlaps_apart w 29 4 102 Tryz.underlying29 5 Tryz.sizeOf102 ⟨vb,0,none⟩ ⟨b,(i+1)*5,none⟩ 1 p lb R q T S C B H G K (u 0) (u C)]
  rfl
 have mixed:Tryz.prog.follows .mixedOrders=true:=by kernel_rfl
 have m:(us.drop (i*5)).length=(n-i)*5:=by rw[Zd,F,Nat.sub_mul]
 have hb1:(0:Int)<=(i:Int)+1:=by omega
 have Z:IntKind.i64.wrap ((i:Int)+1)=(i:Int)+1:=by rw[IntKind.wrap_i64];omega
 have htn:((i:Int)+1).toNat=i+1:=by omega
 have hb2:¬(c=i+1):=by omega
 have hb3:(i:Int)<=(n:Int)+1:=by omega
 have hb4:¬(c=i):=by omega
 have hmn:∀a b:Nat,a=b->goInt a=goInt b:=λa b e=>by rw[e]
 have g:∀ty o A,(Builtin.copy_ #[29,29] ty #[.slice (some ⟨b,(i+1)*5,none⟩) (n-i) o,.slice (some ⟨b,i*5,none⟩) (n+1-i) A]).run Tryz.prog w.drew=.ok (goInt ((n-i:Nat):Int)) (w.drew.setCells b ((i+1)*5) (us.drop (i*5))):=λty o A=>by
  have h:=lQ (P:=Tryz.prog) w.drew 29 29 ty 102 5 b ((i+1)*5) (n-i) o ⟨b,i*5,none⟩ (n+1-i) A (us.drop (i*5)) Tryz.underlying29 r (by rw[m];rw[show Nat.min (n+1-i) (n-i)=n-i from Nat.min_eq_right (by omega)])
   (λj v f=>by rw[Addr.add_lit];exact M (i*5+j) v (by rwa [List.getElem?_drop] at f))
   (λj f=>l _ (by rw[m] at f;omega)) (λj f=>t _) (λv hv=>Q v (List.mem_of_mem_drop hv))
  rw[h];rw[show Nat.min (n+1-i) (n-i)=n-i from Nat.min_eq_right (by omega)]
 obtain⟨W1,d⟩:∃W1,W1=w.drew.setCells b ((i+1)*5) (us.drop (i*5)):=⟨_,rfl⟩
 have s:∀k,k<c*5->(W1.cell? ⟨b,k,none⟩).isSome=true:=λk hk=>by
  rw[d];exact Go.Proofs.isSome_setCells b (us.drop (i*5)) ((i+1)*5) w.drew (λj f=>l _ (by rw[m] at f;omega)) k (l k hk)
 have y:∀(W:World),(∀x,W.cell? x=W1.cell? x)->(∀x,W.frozen? x=W1.frozen? x)->∀ty o,(Builtin.copy_ #[29,29] ty #[.slice (some ⟨b,i*5,none⟩) (n+1-i) o,.slice (some ⟨vb,0,none⟩) 1 p]).run Tryz.prog W=.ok (goInt ((1:Nat):Int)) (W.setCells b (i*5) xs):=λW z N ty o=>by
  have h:=lQ (P:=Tryz.prog) W 29 29 ty 102 5 b (i*5) (n+1-i) o ⟨vb,0,none⟩ 1 p xs Tryz.underlying29 r (by rw[E,show Nat.min 1 (n+1-i)=1 from yH (by omega)])
   (λj v f=>by
    rw[Addr.add_lit,ZI,z,d,World.cell?_setCells_out b _ _ _ _ (λh _=>absurd h q)];exact hvs j v f)
   (λj f=>by rw[z];exact s _ (by omega)) (λj f=>by rw[N,d,World.frozen?_setCells];exact t _) O
  rw[h];rw[show Nat.min 1 (n+1-i)=1 from yH (by omega)]
 rw[<-d] at g
 go_enter Tryz.func215,Tryz.ntmps215
 go_wp2_with (simp only[J])
 go_region_law_o (refine step_copy_runI rfl _ _ 29 29 rfl _ _ (by simp[Act.eval,Act.put]) (by simp[Act.eval,Act.put]) (g _ _ _) ?_)
 go_wp2_with (at_builtin;refine wpList_copy_runI _ rfl _ _ 29 29 rfl _ _ rfl rfl (y _ (λ_=>rfl) (λ_=>rfl) _ _) ?_)
 go_ret
 first|exact⟨rfl,rfl⟩|exact⟨rfl,by rw[d]⟩
set_option maxHeartbeats 1000000 in
theorem Kr(base:Option Addr)(n c vb b:Nat)(w:World)(g:n<=c)(d:n<=1000000){v':Value}{w':World}
  (hr:∀ty,(Builtin.append_ #[29,29] ty #[.slice base n c,.slice (some ⟨vb,0,none⟩) 1 b]).run Tryz.prog w=.ok v' w'):
  Calls Tryz.prog 215 #[.slice base n c,.int .i64 n,.slice (some ⟨vb,0,none⟩) 1 b] w λe f=>e=.returned v'/\f=w':=by
 have mixed:Tryz.prog.follows .mixedOrders=true:=by kernel_rfl
 go_enter Tryz.func215,Tryz.ntmps215
 cases base with
 |none=>
  go_wp2_with (at_builtin;refine Lib.wpList_append_run _ rfl _ _ _ _ rfl _ _ rfl rfl _ _ (hr _) ?_)
  all_goals (go_ret;exact⟨rfl,rfl⟩)
 |some a=>
  obtain⟨j,i,h⟩:=a
  go_wp2_with (at_builtin;refine Lib.wpList_append_run _ rfl _ _ _ _ rfl _ _ rfl rfl _ _ (hr _) ?_)
  all_goals (go_ret;exact⟨rfl,rfl⟩)
def zBn:Value:=.agg #[.int .i64 0,.int .i64 0,.int .i64 0,.string ⟨#[]⟩,.slice none 0 0]
theorem xo(n:Nat):(Builtin.zeroCells zBn.cells n).size=n*5:=by
 rw[size_zeroCells];rfl
set_option maxHeartbeats 2000000 in
theorem H9(b n c i vb F:Nat)(us xs:List Value)(w:World)(hi:i<n)(hnc:n<=c)(l:c<n+1)(hbig:n<=1000000)(L:us.length=n*5)(J:xs.length=5)
  (o:∀j v,us[j]? =some v->w.cell? ⟨b,j,none⟩=some v) (hvs:∀j v,xs[j]? =some v->w.cell? ⟨vb,j,none⟩=some v) (h1c:∀v∈us,v.oneCell'=true) (h1v:∀v∈xs,v.oneCell'=true):
  Calls Tryz.prog 215 #[.slice (some ⟨b,0,none⟩) n c,.int .i64 i,.slice (some ⟨vb,0,none⟩) 1 F] w λe w'=>∃G ROW,n+1<=G/\ROW=(us.take (i*5)).toArray++Builtin.zeroCells zBn.cells (n+1-i)++Builtin.zeroCells zBn.cells (G-(n+1))/\
   e=.returned (.slice (some ⟨w.heap.size,0,none⟩) (n+1) G)/\
   w'=(((w.alloc (.cells ROW 102)).drew.setCells w.heap.size (i*5) xs).drew).setCells w.heap.size ((i+1)*5) (us.drop (i*5)):=by
 have hz2:¬((i:Int)=(n:Int)):=by omega
 have hz3:(c:Int)<(n:Int)+1:=by omega
 have hin:i<=n:=by omega
 obtain⟨i0,B,I,s,r⟩:=info_parts Tryz.Fl;have y:(Tryz.prog.info? 102).map (·.size)=some 5:=by rw[B];simp[s]
 have N:b<w.heap.size:=block_lt_of_cell (o 0 _ (zA (by omega)))
 have K:vb<w.heap.size:=block_lt_of_cell (hvs 0 _ (zA (by omega)))
 have mixed:Tryz.prog.follows .mixedOrders=true:=by kernel_rfl
 have A:(n:Int)+1-(i:Int)=((n+1-i:Nat):Int):=by omega
 have m:i+(n+1-i)=n+1:=by omega
 have u:(us.take (i*5)).length=i*5:=by rw[zn];omega
 have hold:(Builtin.firstCells i0.size i (.slice (some ⟨b,0,none⟩) i c)).run Tryz.prog w.drew=.ok (us.take (i*5)).toArray w.drew:=by
  rw[s]
  exact run_firstCells_some w.drew 5 i ⟨b,0,none⟩ i c (us.take (i*5)) u (λj v d=>by
   rw[Addr.add_lit,ZI];rw[Za] at d;split at d
   .exact o j v d
   .cases d)
 obtain⟨G,E⟩:∃G,G=grownCap w (n+1) c 102:=⟨_,rfl⟩;have V:n+1<=G:=by rw[E];exact grownCap_ge w _ _ _
 have hG63:G<=9223372036854775807:=by
  have:=grownCap_le_maxLen w (n+1) c 102 (by unfold maxLen;omega)
  rw[<-E] at this;unfold maxLen at this;omega
 obtain⟨ROW,a⟩:∃ROW:Array Value,ROW=(us.take (i*5)).toArray++Builtin.zeroCells zBn.cells (n+1-i)++Builtin.zeroCells zBn.cells (G-(n+1)):=⟨_,rfl⟩
 have z:∀ty,(Builtin.append_ #[29,3] ty #[.slice (some ⟨b,0,none⟩) i c,.int .i64 ((n:Int)+1-(i:Int))]).run Tryz.prog w=
   .ok (.slice (some ⟨w.heap.size,0,none⟩) (n+1) G) (w.drew.alloc (.cells ROW 102)):=λty=>by
  have h:=Lib.run_append_grow_zeros w 29 3 ty 102 i0 _ .i64 .i64 Tryz.underlying29 Tryz.underlying3 B I (some ⟨b,0,none⟩) i c (us.take (i*5)) hold (n+1-i) (by omega) (by omega) (by omega) (by omega) (by rw[r];omega) (by rw[r,m];exact growslice_fits l (by omega))
  rw[m,<-E] at h;rw[A,a];exact h
 have Q:ROW.size=G*5:=by
  rw[a];simp only[Array.size_append,List.size_toArray,xo,u,Nat.sub_mul];omega
 obtain⟨W1,f⟩:∃W1,W1=w.drew.alloc (.cells ROW 102):=⟨_,rfl⟩
 have U:∀j,j<G*5->(W1.cell? ⟨w.heap.size,j,none⟩).isSome=true:=λj d=>by
  rw[f,World.cell?_alloc_at (w:=w.drew) ROW _ w.heap.size j rfl,zi (by omega)];rfl
 have D:∀j,W1.frozen? ⟨w.heap.size,j,none⟩=false:=λj=>by rw[f];exact World.frozen?_alloc_at (w:=w.drew) ROW _ w.heap.size j rfl
 have T:∀j v,w.cell? ⟨b,j,none⟩=some v->W1.cell? ⟨b,j,none⟩=some v:=λj v h=>by rw[f,World.cell?_alloc_past (w:=w.drew) _ b j N];exact h
 have S:∀j v,w.cell? ⟨vb,j,none⟩=some v->W1.cell? ⟨vb,j,none⟩=some v:=λj v h=>by rw[f,World.cell?_alloc_past (w:=w.drew) _ vb j K];exact h
 have C:∀(W:World),(∀x,W.cell? x=W1.cell? x)->(∀x,W.frozen? x=W1.frozen? x)->∀ty q,(Builtin.copy_ #[29,29] ty #[.slice (some ⟨w.heap.size,i*5,none⟩) (n+1-i) q,.slice (some ⟨vb,0,none⟩) 1 F]).run Tryz.prog W=.ok (goInt ((1:Nat):Int)) (W.setCells w.heap.size (i*5) xs):=λW g p ty q=>by
  have h:=lQ (P:=Tryz.prog) W 29 29 ty 102 5 w.heap.size (i*5) (n+1-i) q ⟨vb,0,none⟩ 1 F xs Tryz.underlying29 y (by rw[J,show Nat.min 1 (n+1-i)=1 from yH (by omega)])
   (λj v d=>by rw[Addr.add_lit,ZI,g];exact S _ v (hvs j v d))
   (λj d=>by rw[g];exact U _ (by omega)) (λj d=>by rw[p];exact D _) h1v
  rw[h];rw[show Nat.min 1 (n+1-i)=1 from yH (by omega)]
 have hGi:¬(G=i):=by omega
 have hGim:¬(G=i+1):=by omega
 have hci:¬(c=i):=by omega
 have O:b≠w.heap.size:=by omega
 have M:(us.drop (i*5)).length=(n-i)*5:=by rw[Zd,L,Nat.sub_mul]
 have k:∀(W:World),(∀x,W.cell? x=(W1.setCells w.heap.size (i*5) xs).cell? x)->(∀x,W.frozen? x=(W1.setCells w.heap.size (i*5) xs).frozen? x)->∀ty q H,(Builtin.copy_ #[29,29] ty #[.slice (some ⟨w.heap.size,(i+1)*5,none⟩) (n-i) q,.slice (some ⟨b,i*5,none⟩) (n-i) H]).run Tryz.prog W=.ok (goInt ((n-i:Nat):Int)) (W.setCells w.heap.size ((i+1)*5) (us.drop (i*5))):=λW g p ty q H=>by
  have h:=lQ (P:=Tryz.prog) W 29 29 ty 102 5 w.heap.size ((i+1)*5) (n-i) q ⟨b,i*5,none⟩ (n-i) H (us.drop (i*5)) Tryz.underlying29 y (by rw[M,show Nat.min (n-i) (n-i)=n-i from Nat.min_self _])
   (λj v d=>by
    rw[Addr.add_lit,g,World.cell?_setCells_out _ _ _ _ _ (λh _=>absurd h O)];exact T _ v (o (i*5+j) v (by rwa [List.getElem?_drop] at d)))
   (λj d=>by rw[g];exact Go.Proofs.isSome_setCells _ _ _ _ (λt ht=>U _ (by omega)) _ (U _ (by omega)))
   (λj d=>by rw[p,World.frozen?_setCells];exact D _) (λv hv=>h1c v (List.mem_of_mem_drop hv))
  rw[h];rw[show Nat.min (n-i) (n-i)=n-i from Nat.min_self _]
 have hb1:(0:Int)<=(i:Int)+1:=by omega
 have hw1:IntKind.i64.wrap ((i:Int)+1)=(i:Int)+1:=by rw[IntKind.wrap_i64];omega
 have htn:((i:Int)+1).toNat=i+1:=by omega
 refine Calls.mono (R:=λe w'=>e=.returned (.slice (some ⟨w.heap.size,0,none⟩) (n+1) G)/\w'=(((w.alloc (.cells ROW 102)).drew.setCells w.heap.size (i*5) xs).drew).setCells w.heap.size ((i+1)*5) (us.drop (i*5))) ?_ λe w' h=>⟨G,ROW,V,a,h⟩;rw[<-f] at z;subst f;have hE1:∀x,((w.alloc (.cells ROW 102)).drew).cell? x=(w.drew.alloc (.cells ROW 102)).cell? x:=λx=>rfl;have Z:∀x,((w.alloc (.cells ROW 102)).drew).frozen? x=(w.drew.alloc (.cells ROW 102)).frozen? x:=λx=>rfl;have Y:∀x,(((w.alloc (.cells ROW 102)).drew.setCells w.heap.size (i*5) xs).drew).cell? x=((w.drew.alloc (.cells ROW 102)).setCells w.heap.size (i*5) xs).cell? x:=λx=>rfl;have X:∀x,(((w.alloc (.cells ROW 102)).drew.setCells w.heap.size (i*5) xs).drew).frozen? x=((w.drew.alloc (.cells ROW 102)).setCells w.heap.size (i*5) xs).frozen? x:=λx=>rfl;clear A m hold a E Q
 go_enter Tryz.func215,Tryz.ntmps215
 go_wp2_with (first
  |(at_builtin;refine Lib.wpList_append_run _ rfl _ _ _ _ rfl _ _ rfl rfl _ _ (z _) ?_)
  |(at_builtin;refine wpList_copy_runI _ rfl _ _ 29 29 rfl _ _ rfl rfl (C _ hE1 Z _ _) ?_)
  |(at_builtin;refine wpList_copy_runI _ rfl _ _ 29 29 rfl _ _ rfl rfl (k _ (λ_=>rfl) (λ_=>rfl) _ _ _) ?_))
 go_region_law_o (refine step_copy_runI rfl _ _ 29 29 rfl (.slice (some ⟨w.heap.size,(i+1)*5,none⟩) (n-i) (G-(i+1))) (.slice (some ⟨b,i*5,none⟩) (n-i) (c-i)) (by simp[Act.eval,Act.put]) (by simp[Act.eval,Act.put]) (k _ Y X 3 (G-(i+1)) (c-i)) ?_)
 go_wp2
 go_ret
 exact⟨rfl,rfl⟩
end Go.AM
namespace Go.CK
open Go.AM Go.RowKit Go.Proofs
theorem aF:Plain Bnd.av 5:=⟨by decide,λ_=>rfl,λx c h=>by
 simp[Bnd.av,AV.cells] at h;rcases h with rfl|rfl|rfl|rfl|rfl<;>rfl,λx c h=>by
 simp[Bnd.av,AV.cells] at h;rcases h with rfl|rfl|rfl|rfl|rfl<;>rfl⟩
theorem IW:cO zBn=some (.agg [.int .i64 0,.int .i64 0,.int .i64 0,.str ⟨#[]⟩,.sl .full []]):=by kernel_rfl
set_option maxHeartbeats 1000000 in
theorem tL{bs:List Box}{b vb k i:Nat}{l:List Bnd}{x:Bnd}(hb:bs[b]? =some (aJ Bnd.av 5 k l))(Z:bs[vb]? =some (aJ Bnd.av 5 1 [x]))(hne:vb≠b)(hi:i<=l.length)(hk:l.length<=k)(hn:l.length<=1000000):
  AM.Sem Tryz.prog 215 [.bsl b l.length k,.int .i64 i,.bsl vb 1 1] bs λr bs'=>∃k',l.length+1<=k'/\r=.bsl bs.length (l.length+1) k'/\bs'=bs.set b .dead++[aJ Bnd.av 5 k' (jq l i x)]:=by
 intro E G a0 w args lo d hlen hav;obtain⟨u,hu,rfl⟩:=C4 hlen hav;obtain⟨S,rfl,hbl,_,hkl,had⟩:=hu.cj;have Y:=Gu aF Z Zw (by simp)
 have C:∀(m k:Nat) (c:Nat) (L:List Bnd),bs[c]? =some (aJ Bnd.av 5 k L)->m=L.length->se 5 bs (.bsl c m k) λn' ys'=>n'=L.length/\ys'=cellsOf (L.map Bnd.av):=λm k c L o hm=>by
  subst hm;simp only[se,ed o,aF.take];refine⟨⟨by rw[zC,aF.len];exact yA _ _,λx hx=>(aF.mem hx).1⟩,?_⟩
  exact⟨trivial,trivial⟩
 have hvr:RV G.M G.σ bs.length (.bsl vb 1 1) (.slice (some ⟨G.σ vb,0,none⟩) 1 1):=.bsl _ _ _ _ (zB.1 Z).1 (zG _) (by unfold lim;omega) (λ_=>rfl)
 obtain⟨_,xv,cv,Bv,ov,xs,W,v1,v2,v3,v4,v5⟩:=d.els hvr (C 1 1 vb [x] Z rfl)
 have hvs:∀j v,xs[j]? =some v->w.cell? ⟨G.σ vb,j,none⟩=some v:=λj v a=>by
  have Q:=v5 j v a;have O:=v4 (by simp)
  rw[O] at W;cases W
  rwa [ZI] at Q
 obtain⟨_,xb,cb,Bb,ob,us,D,U,T,u3,u4,u5⟩:=d.els hu (C l.length k b l hb rfl);obtain⟨i0,hi0,hz0,hz1,hzb⟩:=info_parts Tryz.Fl;have A:xs.length=5:=by rw[v1];rfl
 by_cases hin:i=l.length
 .subst hin
  obtain⟨k',v',G',w',q1,q2,q3,q4⟩:=sr (P:=Tryz.prog) (e:=102) (zv:=zBn) (X:=Builtin.firstCells 5 1 (.slice (some ⟨G.σ vb,0,none⟩) 1 1)) (run:=(Builtin.append_ #[29,29] 29 #[.slice S l.length k,.slice (some ⟨G.σ vb,0,none⟩) 1 1]).run Tryz.prog w) d.yn (z:=5) (by kernel_rfl) IW (by kernel_rfl) (x:=.bsl b l.length k) (v:=.slice S l.length k) hu (m:=l.length) (k:=k) (n:=1) (ob:=some b)
   (ub hb ⟨rfl,rfl,rfl,rfl⟩) (by omega) (by rw[zC,aF.len,zf,<-ZL];exact ZE _ (by omega)) (by unfold lim;omega) (λy g=>by rw[aF.take] at g;exact(aF.mem g).1) (ys:=cellsOf ([x].map Bnd.av)) rfl v1 v2 v3 (bB w v1 (λ_=>rfl) (λj u hu=>by rw[ZI];exact hvs j u hu)) (bB w.drew v1 (λ_=>rfl) (λj u hu=>by rw[ZI];exact hvs j u hu))
   (λad' Z=>by cases Z;rw[kF (P:=Tryz.prog) Tryz.underlying29 hi0 hz0 hz1 hzb 29 S l.length k (some ⟨G.σ vb,0,none⟩) 1 1 w (by unfold lim;omega) (by omega)];cases S<;>rfl)
  refine(Kr S l.length k (G.σ vb) 1 w hk hn (v':=v') (w':=w') (λty=>q2)).mono ?_;rintro e w2 ⟨rfl,rfl⟩;refine⟨v',_,_,_,rfl,⟨k',q1,rfl,?_⟩,Nw q3 Zw (by simpa[fg] using q4)⟩
  rw[aF.take,jq,zz,zj,aJ,zu,jC,zC];simp only[fJ,zg];rfl
 .have hcs:∀j v,us[j]? =some v->w.cell? ⟨G.σ b,j,none⟩=some v:=λj v a=>by
   have Q:=u5 j v a;have O:=u4 (by omega)
   rw[O] at D;rw[had (by omega)] at D
   cases D
   rwa [ZI] at Q
  obtain⟨B,f⟩:=Gu aF hb (by omega) hk
  obtain⟨Vb,Tb,b1,b2,b3,b4,b5⟩:=d.FO B;obtain⟨Vv,Tv,w1,w2,w3,w4,w5⟩:=d.FO Y.1;have hσ:G.σ vb≠G.σ b:=λe=>hne (d.inj _ _ _ _ Y.1 B e);obtain rfl:S=some ⟨G.σ b,0,none⟩:=had (by omega)
  by_cases h:l.length+1<=k
  .refine (Fk (G.σ b) l.length k i (G.σ vb) 1 us xs w (by omega) h hn hσ U A hcs (λj a=>b5 j (by rw[f];exact a)) b4 hvs T v2 Tv Tb Vv.size Vb.size w3 b3 (by rw[f] at b2;omega) w4).mono ?_
   rintro e w' ⟨rfl,rfl⟩
   have Q:=d.yn.drew.An B ((i+1)*5) ((cellsOf (l.map Bnd.av)).drop (i*5)) (us.drop (i*5)) (by rw[f,Zd,aF.len];omega) (by rw[Zd,Zd,U,aF.len]) (λu hu=>T u (List.mem_of_mem_drop hu)) (λj a u hu=>by
    rw[Zz];exact u3 _ _ u (by rwa [List.getElem?_drop] at hu))
   have F:aa ((bs.set b (.cells (setAt (cellsOf (l.map Bnd.av)++List.replicate ((k-l.length)*5) AV.top) ((i+1)*5) ((cellsOf (l.map Bnd.av)).drop (i*5)))))) b=some (setAt (cellsOf (l.map Bnd.av)++List.replicate ((k-l.length)*5) AV.top) ((i+1)*5) ((cellsOf (l.map Bnd.av)).drop (i*5))):=by
    rw[a7 B,if_pos rfl]
   have O:=Q.An F (i*5) x.av.cells xs (by rw[bn,f,aF.sz];omega) (by rw[A,aF.sz]) v2 (λj a u hu=>by
    have:=v3 j (by rw[List.map_singleton,cellsOf,cellsOf,zy];exact a) u hu
    simpa[St.aU,cellsOf] using this)
   have hc2:=F
   have h3:=O.LO (b:=b) (by simp only[St.aU];rw[a7 F,if_pos rfl]) (cellsOf ((jq l i x).map Bnd.av)++List.replicate ((k-(l.length+1))*5) .top) (by
    rw[bn,bn,f,zC,aF.len,bZ,zf,<-ZL];exact ZE _ (by omega)) (λj y g=>by
    by_cases a:j<(l.length+1)*5
    .rw [zK (by rw[aF.len,bZ];exact a)] at g
     refine .inr ⟨?_,(aF.mem (zE g)).1⟩;rw[BW aF l hi x _ (by rw[zf];omega) a]
     exact g
    .rw [zZ (by rw[aF.len,bZ];omega)] at g
     exact .inl (ZY.1 (zE g)).2)
   refine⟨_,_,_,_,rfl,⟨k,h,rfl,?_⟩,Nw h3 Zw (.bsl _ _ _ _ ?_ ?_ ?_ ?_)⟩
   .simp only[St.aU,List.set_set,aJ,bZ]
   .simp [St.aU]
   .exact h
   .unfold lim;omega
   .intro _;simp[St.aU]
  .refine (H9 (G.σ b) l.length k i (G.σ vb) 1 us xs w (by omega) hk (by omega) hn U A hcs hvs T v2).mono ?_
   rintro e w' ⟨K,ROW,hK,s,rfl,rfl⟩;have htl:(us.take (i*5)).length=i*5:=by rw[zn,U];omega
   have hRl:ROW.toList.length=K*5:=by
    rw[s];simp only[Array.toList_append,zC,ZJ,List.size_toArray,xo,htl,Nat.sub_mul];omega
   have V:∀n,∀u∈(Builtin.zeroCells zBn.cells n).toList,u.oneCell'=true:=λn u hu=>by
    simp only[Builtin.zeroCells,Array.toList_map,zk] at hu;obtain⟨j,a,rfl⟩:=hu;obtain⟨z1,z2,_⟩:=(RV.flat (σ:=λ_=>0) (n:=0) (ib (M:=G.M) IW)).cells (by kernel_rfl)
    have hp:0<zBn.cells.size:=by decide
    have p:j %zBn.cells.size<zBn.cells.size:=yT _ hp;have hm:=z2 (zBn.cells[j %zBn.cells.size]'p) (by simp)
    rw[getElem!_pos zBn.cells _ p];exact hm
   have h0:=d.yn.om (.row ((cellsOf (l.map Bnd.av)).take (i*5)++List.replicate (K*5-i*5) .top)) ((cellsOf (l.map Bnd.av)).take (i*5)++List.replicate (K*5-i*5) .top) rfl (λds e=>by
    rw[dT] at e;split at e
    .cases e
    .cases e;rfl) ROW.toList 102 (by rw[hRl,zC,zn,aF.len,zf];omega) (λu hu=>by
    rw[s] at hu;simp only[Array.toList_append,zY] at hu;rcases hu with (hu|hu)|hu
    .exact T u (List.mem_of_mem_take (by simpa using hu))
    .exact V _ u hu
    .exact V _ u hu) (λj a u hu=>by
    by_cases hj1:j<i*5
    .rw [ZH (by rw[zn,aF.len];omega),Zp]
     refine u3 j _ u ?_;rw[s] at hu;simp only[Array.toList_append,zg] at hu;rw[zK (by omega),Za,if_pos hj1] at hu
     exact hu
    .rw [ZW (by rw[zn,aF.len];omega),Zt]
     exact .flat (.top _))
   obtain⟨t,H⟩:∃t,t=(cellsOf (l.map Bnd.av)).take (i*5)++List.replicate (K*5-i*5) AV.top:=⟨_,rfl⟩;rw[<-H] at h0;have hA:=aF.len l;have q:t.length=K*5:=by rw[H,zC,zn,hA,zf];omega
   have hc0n:t≠[]:=λe=>by rw[e] at q;simp at q;omega
   have J:aa (bs++[Box.row t]) bs.length=some t:=by rw[aq,if_pos rfl,dT,if_neg hc0n]
   have Q:=h0.drew.An J (i*5) x.av.cells xs (by rw[q,aF.sz];omega) (by rw[A,aF.sz]) v2 (λj a u hu=>by
    have:=v3 j (by rw[List.map_singleton,cellsOf,cellsOf,zy];exact a) u hu
    have N:RV G.M G.σ bs.length (x.av.cells[j]) u:=by simpa[cellsOf] using this
    exact N.mono (Hp.le_refl _) (by simp) (λc o=>by dsimp only;rw[if_neg (by omega)]))
   have I:aa ((bs++[Box.row t]).set bs.length (Box.cells (setAt t (i*5) x.av.cells))) bs.length=some (setAt t (i*5) x.av.cells):=by rw[a7 J,if_pos rfl]
   have O:=Q.drew.An I ((i+1)*5) ((cellsOf (l.map Bnd.av)).drop (i*5)) (us.drop (i*5)) (by rw[bn,q,Zd,hA];omega) (by rw[Zd,Zd,U,hA]) (λu hu=>T u (List.mem_of_mem_drop hu)) (λj a u hu=>by
    have N:RV G.M G.σ bs.length (((cellsOf (l.map Bnd.av)).drop (i*5))[j]) u:=by
     rw[Zz];exact u3 _ _ u (by rwa [List.getElem?_drop] at hu)
    exact N.mono (Hp.le_refl _) (by simp[St.aU]) (λc o=>by dsimp only;rw[if_neg (by omega)]))
   have h3:=O.reb (bs':=bs.set b .dead++[.row (cellsOf ((jq l i x).map Bnd.av)++List.replicate ((K-(l.length+1))*5) .top)]) (σ':=λc=>if c=bs.length then w.heap.size else G.σ c) id (by simp[St.aU]) (λc o=>rfl) (λc y g=>by
    have N:=eK (cu rfl g);have p:=aO N;simp only[ah,St.aU] at N|-;rw[Ze (by omega),Ze (by omega),zK p]
    exact N) (λc cs' o=>by
    simp only[id,St.aU];rw[aq,zm] at o
    by_cases R:c=bs.length
    .rw [if_pos R,dT] at o;subst R;rw[a7 I,if_pos rfl];split at o
     .cases o
     .cases o;refine⟨_,rfl,by simp,?_,λj y g=>?_⟩
      .rw [bn,bn,q,zC,aF.len,bZ,zf,<-ZL];exact ZE _ (by omega)
      .by_cases a:j<(l.length+1)*5
       .rw [zK (by rw[aF.len,bZ];exact a)] at g
        refine .inr ⟨?_,.inl trivial⟩;rw[Fv aF l hi x t _ H (by rw[zf];omega) a]
        exact g
       .rw [zZ (by rw[aF.len,bZ];omega)] at g
        exact .inl (ZY.1 (zE g)).2
    .rw [if_neg R,bw] at o;split at o
     .cases o
     .have p:=aC o;refine⟨cs',?_,by simp[R],zG _,λj x hx=>.inr ⟨hx,.inl trivial⟩⟩
      rw[a7 I,if_neg R,a7 J,if_neg R,aq,if_neg R];exact o) (λc c' _ _ _ _ e=>e)
   simp only[St.aU] at h3;refine⟨_,_,bs.set b .dead++[aJ Bnd.av 5 K (jq l i x)],_,rfl,⟨K,hK,rfl,rfl⟩,Nw (E:=bR G bs w 1) (G:={M:=G.M,σ:=λc=>if c=bs.length then w.heap.size else G.σ c,cl:=fq G.cl}) ?_ Zw (.bsl _ _ _ _ ?_ ?_ ?_ ?_)⟩
   .have e4:aJ Bnd.av 5 K (jq l i x)=.row (cellsOf ((jq l i x).map Bnd.av)++List.replicate ((K-(l.length+1))*5) AV.top):=by simp only[aJ,bZ]
    rw[e4];simp only[if_true] at h3;exact h3
   .simp
   .exact hK
   .unfold lim;omega
   .intro _;simp
end Go.CK
namespace Go.CK
open Go.AM Go.Proofs
theorem sF(a b:Tm):Fun Tryz.prog 186 [a.avw,b.avw] (.bool (decide (a.cmp b=0))):=by
 refine Fun.of (AW (by simp) ?_) rfl rfl
 conv=>whnf
 repeat' (first|refine gF (ae.fn (Ga a b) ?_)|refine ag.nrm ?_)<;>conv=>whnf
theorem xS(x:Bnd)(v:Int):AM.Sem Tryz.prog 139 [x.av,.ptr 0 0] [.cells [.int .i64 v]] λr bs'=>r=.bool (decide (x.v=v))/\bs'=[.cells [.int .i64 v]]:=by
 refine tn (by simp) ?_
 conv=>whnf
 skip;refine ag.lay [some 0] oko ?_
 conv=>whnf
 repeat' refine ag.nrm ?_<;>conv=>whnf
 exact⟨rfl,rfl⟩
theorem EY{b:List Bnd}{v:Int}(hb:b.length<=4000000000):AM.Sem Tryz.prog 138 [.sl .no (b.map Bnd.av),.fn (.func 139) [] [.ptr 0 0]] [.cells [.int .i64 v]] λr bs'=>r=.int .i64 (Da b v)/\bs'=[.cells [.int .i64 v]]:=by
 refine bL (by simp) ?_
 conv=>whnf
 repeat' refine gL (.map ?_)<;>conv=>whnf
 refine ax.by (fb:=true) (λ_ (j:Nat)=>⟨[(0,.sl .no (b.map Bnd.av)),(1,.fn (.func 139) [] [.ptr 0 0]),(7,.int .i64 (b.length:Int)),(8,.int .i64 (j:Int))],[.cells [.int .i64 v]],1⟩) (λj=>j<=b.length/\∀(i:Nat) (x:Bnd),i<j->b[i]? =some x->¬x.v=v) (λj=>b.length-j) 0 ⟨zJ _,λi x l=>by omega⟩ ?_ ?_
 .exact aN
 .rintro j ⟨m,f⟩
  by_cases k:j<b.length
  .obtain ⟨x,a⟩:∃x,b[j]? =some x:=⟨_,zA k⟩
   by_cases d:x.v=v
   .obtain ⟨h,_⟩:=GS a d f;have c:=xS x v;rw[decide_eq_true d] at c;rw[h]
    conv=>whnf
    repeat' (first|refine gC (gD (cI ?_))|refine gI (gM (iE ?_))|refine gH (hB ?_))<;>conv=>whnf
    refine ae.ate [0] c rfl rfl ?_
    conv=>whnf
    repeat' (first|refine gC (cY ?_)|refine ag.nrm ?_)<;>conv=>whnf
    exact⟨rfl,rfl⟩
   .have c:=xS x v;rw[decide_eq_false d] at c
    conv=>whnf
    repeat' (first|refine gC (gD (cI ?_))|refine gI (gM (iE ?_))|refine gH (hB ?_))<;>conv=>whnf
    refine ae.ate [0] c rfl rfl ?_
    conv=>whnf
    repeat' (first|refine gC (cN ?_)|refine gW (wI ?_)|fail)<;>conv=>whnf
    refine⟨j+1,⟨⟨k,λi y l g=>?_⟩,by omega⟩,?_⟩
    .by_cases e:i=j
     .subst e;rw[a] at g;cases g;exact d
     .exact f i y (by omega) g
    exact aN
  .obtain rfl:j=b.length:=by omega
   obtain⟨h,_⟩:=GR (v:=v) λi x a=>f i x (zB.1 a).1 a;rw[h]
   conv=>whnf
   repeat' (first|refine gC (gD (cJ ?_))|refine ag.nrm ?_)<;>conv=>whnf
   exact⟨rfl,rfl⟩
theorem CM(b:List Bnd)(v:Int)(hb:b.length<=4000000000):Fun Tryz.prog 79 [.sl .no (b.map Bnd.av),.int .i64 v] (.int .i64 (Da b v)):=by
 have a:=EY (v:=v) hb;refine Fun.of (w7 (by simp) ?_) rfl rfl
 conv=>whnf
 skip;refine ae.ate [0] a rfl rfl ?_
 conv=>whnf
 repeat' refine ag.nrm ?_<;>conv=>whnf
 all_goals rfl
def gtB(b:List Bnd)(v:Int):Int:=match b.findIdx? λx=>decide (v<x.v) with
 |none=>-1
 |some i=>i
def qg(b:List Bnd)(v:Int):Nat:=match b.findIdx? λx=>decide (v<x.v) with
 |none=>b.length
 |some i=>i
def tC(b:List Bnd)(y:Bnd):List Bnd:=jq b (qg b y.v) y
theorem NV{b:List Bnd}{v:Int}(h:∀(i:Nat) (x:Bnd),b[i]? =some x->¬v<x.v):gtB b v=-1/\qg b v=b.length:=by
 have a:b.findIdx? (λx=>decide (v<x.v))=none:=by
  rw[List.findIdx?_eq_none_iff];intro x c;obtain⟨i,d⟩:=ZR c;exact decide_eq_false (h i x d)
 exact⟨by unfold gtB;rw[a],by unfold qg;rw[a]⟩
theorem NW{b:List Bnd}{v:Int}{i:Nat}{x:Bnd}(c:b[i]? =some x)(d:v<x.v)(h:∀(j:Nat) (y:Bnd),j<i->b[j]? =some y->¬v<y.v):gtB b v=i/\qg b v=i:=by
 have a:b.findIdx? (λx=>decide (v<x.v))=some i:=by
  rw[List.findIdx?_eq_some_iff_getElem];obtain⟨f,he⟩:=zB.1 c;refine⟨f,by rw[he];exact decide_eq_true d,λj e=>?_⟩
  have:=h j _ e (zA (by omega))
  simpa using this
 exact⟨by unfold gtB;rw[a],by unfold qg;rw[a]⟩
theorem LV(b:List Bnd)(v:Int):qg b v<=b.length:=by
 unfold qg
 cases h:b.findIdx? λx=>decide (v<x.v) with
 |none=>exact zG _
 |some i=>
  rw[List.findIdx?_eq_some_iff_getElem] at h;exact Nat.le_of_lt h.1
theorem Mu(b:List Bnd)(v:Int):(gtB b v=-1/\qg b v=b.length)\/gtB b v=qg b v:=by
 unfold gtB qg
 cases h:b.findIdx? λx=>decide (v<x.v) with
 |none=>exact .inl ⟨rfl,rfl⟩
 |some i=>exact .inr rfl
abbrev eM(y:Bnd):List AV:=[.int .i64 y.v,.int .i64 y.t.kind,.int .i64 y.t.num,.str y.t.name,.sl .no (y.t.args.map Tm.av)]
theorem CN(x y:Bnd):AM.Sem Tryz.prog 214 [x.av,.ptr 0 0] [.cells (eM y)] λr bs'=>r=.bool (decide (y.v<x.v))/\bs'=[.cells (eM y)]:=by
 refine oJ (by simp) ?_
 conv=>whnf
 skip;refine ag.lay [some 0] oko ?_
 conv=>whnf
 repeat' refine ag.nrm ?_<;>conv=>whnf
 exact⟨rfl,rfl⟩
theorem EX{b:List Bnd}{y:Bnd}(hb:b.length<=4000000000):AM.Sem Tryz.prog 138 [.sl .no (b.map Bnd.av),.fn (.func 214) [] [.ptr 0 0]] [.cells (eM y)] λr bs'=>r=.int .i64 (gtB b y.v)/\bs'=[.cells (eM y)]:=by
 refine bL (by simp) ?_
 conv=>whnf
 repeat' refine gL (.map ?_)<;>conv=>whnf
 refine ax.by (fb:=true) (λ_ (j:Nat)=>⟨[(0,.sl .no (b.map Bnd.av)),(1,.fn (.func 214) [] [.ptr 0 0]),(7,.int .i64 (b.length:Int)),(8,.int .i64 (j:Int))],[.cells (eM y)],1⟩) (λj=>j<=b.length/\∀(i:Nat) (x:Bnd),i<j->b[i]? =some x->¬y.v<x.v) (λj=>b.length-j) 0 ⟨zJ _,λi x l=>by omega⟩ ?_ ?_
 .exact aN
 .rintro j ⟨m,f⟩
  by_cases k:j<b.length
  .obtain ⟨x,a⟩:∃x,b[j]? =some x:=⟨_,zA k⟩
   by_cases d:y.v<x.v
   .obtain ⟨h,_⟩:=NW a d f;have c:=CN x y;rw[decide_eq_true d] at c;rw[h]
    conv=>whnf
    repeat' (first|refine gC (gD (cI ?_))|refine gI (gM (iE ?_))|refine gH (hB ?_))<;>conv=>whnf
    refine ae.ate [0] c rfl rfl ?_
    conv=>whnf
    repeat' (first|refine gC (cY ?_)|refine ag.nrm ?_)<;>conv=>whnf
    exact⟨rfl,rfl⟩
   .have c:=CN x y;rw[decide_eq_false d] at c
    conv=>whnf
    repeat' (first|refine gC (gD (cI ?_))|refine gI (gM (iE ?_))|refine gH (hB ?_))<;>conv=>whnf
    refine ae.ate [0] c rfl rfl ?_
    conv=>whnf
    repeat' (first|refine gC (cN ?_)|refine gW (wI ?_)|fail)<;>conv=>whnf
    refine⟨j+1,⟨⟨k,λi z l g=>?_⟩,by omega⟩,?_⟩
    .by_cases e:i=j
     .subst e;rw[a] at g;cases g;exact d
     .exact f i z (by omega) g
    exact aN
  .obtain rfl:j=b.length:=by omega
   obtain⟨h,_⟩:=NV (v:=y.v) λi x a=>f i x (zB.1 a).1 a;rw[h]
   conv=>whnf
   repeat' (first|refine gC (gD (cJ ?_))|refine ag.nrm ?_)<;>conv=>whnf
   exact⟨rfl,rfl⟩
theorem mu{bs:List Box}{l:List Bnd}(d:l.length<=1000000):AM.Sem Tryz.prog 77 [.sl .no (l.map Bnd.av)] bs λr bs'=>∃k,l.length<=k/\r=.bsl bs.length l.length k/\bs'=bs++[aJ Bnd.av 5 k l]:=by
 refine dW (by simp) ?_
 conv=>whnf
 try dsimp only
 skip;refine F9.no λb hb=>?_
 conv=>whnf
 try dsimp only
 repeat' (refine gC ?_;refine ak.any (λc=>?_) (λc=>?_))<;>(conv=>whnf;try dsimp only)
 .have a:l=[]:=by simpa using hb c
  subst a;exact ag.sE 2 rfl (ag.slot ⟨0,zG _,rfl,rfl⟩)
 .refine oe.EU (l':=l) aF (by omega) λk hk=>?_
  conv=>whnf
  try dsimp only
  skip;exact ag.slot ⟨k,hk,rfl,rfl⟩
theorem FN{l:List Bnd}(d:l.length<=1000000):Fun Tryz.prog 77 [.sl .no (l.map Bnd.av)] (.sl .no (l.map Bnd.av)):=by
 refine Fun.of (en (by simp) ?_) rfl rfl
 conv=>whnf
 skip;refine F9.no λb hb=>?_
 conv=>whnf
 repeat' (refine gC ?_;refine ak.any (λc=>?_) (λc=>?_))<;>conv=>whnf
 .have a:l=[]:=by simpa using hb c
  subst a;refine⟨_,aD.refl _,.inr ?_⟩
  conv=>whnf
  rfl
 .refine oe.EU (l':=l) aF (by omega) λk hk=>?_
  conv=>whnf
  skip;exact ag.froze aF (l:=l) (k:=k) rfl rfl rfl (ag.slot rfl)
theorem Dl(b:List Bnd)(y:Bnd)(hb:b.length<=1000000):Fun Tryz.prog 187 [.sl .no (b.map Bnd.av),y.av] (.sl .no ((tC b y).map Bnd.av)):=by
 have g:=EX (b:=b) (y:=y) (by omega)
 have f:=LV b y.v;refine Fun.of (pz (by simp) ?_) rfl rfl
 conv=>whnf
 try dsimp only
 skip;refine ae.raw g ?_;rintro r bs' ⟨rfl,rfl⟩;rcases Mu b y.v with ⟨c,h⟩|c
 .rw [c,tC,h]
  conv=>whnf
  try dsimp only
  repeat' (first|refine gC (gD (cI ?_))|refine gL (.map ?_))<;>(conv=>whnf;try dsimp only)
  refine gi.of (cs:=eM y) rfl ?_
  conv=>whnf
  try dsimp only
  repeat' refine ra.mk ?_ ?_<;>(conv=>whnf;try dsimp only)
  .refine ae.raw (mu (l:=b) hb) ?_;rintro r e ⟨k,hk,rfl,rfl⟩
   conv=>whnf
   try dsimp only
   repeat' refine gPr (pT ?_)<;>(conv=>whnf;try dsimp only)
   refine qZ.one aF (λy=>⟨rfl,rfl⟩) (x:=y) rfl ?_
   conv=>whnf
   try dsimp only
   repeat' refine gPr (pT ?_)<;>(conv=>whnf;try dsimp only)
   refine ae.raw (tL (b:=1) (vb:=2) (x:=y) (l:=b) (i:=b.length) rfl rfl (by decide) (by omega) hk (by omega)) ?_
   rintro r d ⟨k',a,rfl,rfl⟩
   conv=>whnf
   try dsimp only
   skip;exact ag.froze aF (l:=jq b b.length y) (k:=k') rfl rfl (by rw[bZ]) (ag.slot rfl)
  .refine qZ.one aF (λy=>⟨rfl,rfl⟩) (x:=y) rfl ?_
   conv=>whnf
   try dsimp only
   repeat' refine gPr (pT ?_)<;>(conv=>whnf;try dsimp only)
   refine ae.raw (mu (l:=b) hb) ?_;rintro r e ⟨k,hk,rfl,rfl⟩
   conv=>whnf
   try dsimp only
   repeat' refine gPr (pT ?_)<;>(conv=>whnf;try dsimp only)
   refine ae.raw (tL (b:=2) (vb:=1) (x:=y) (l:=b) (i:=b.length) rfl rfl (by decide) (by omega) hk (by omega)) ?_
   rintro r d ⟨k',a,rfl,rfl⟩
   conv=>whnf
   try dsimp only
   skip;exact ag.froze aF (l:=jq b b.length y) (k:=k') rfl rfl (by rw[bZ]) (ag.slot rfl)
 .rw [c,tC]
  conv=>whnf
  try dsimp only
  repeat' refine gC (gD (cJ ?_))<;>(conv=>whnf;try dsimp only)
  refine gi.of (cs:=eM y) rfl ?_
  conv=>whnf
  try dsimp only
  repeat' refine ra.mk ?_ ?_<;>(conv=>whnf;try dsimp only)
  .refine ae.raw (mu (l:=b) hb) ?_;rintro r e ⟨k,hk,rfl,rfl⟩
   conv=>whnf
   try dsimp only
   repeat' refine gPr (pT ?_)<;>(conv=>whnf;try dsimp only)
   refine qZ.one aF (λy=>⟨rfl,rfl⟩) (x:=y) rfl ?_
   conv=>whnf
   try dsimp only
   repeat' refine gPr (pT ?_)<;>(conv=>whnf;try dsimp only)
   refine ae.raw (tL (b:=1) (vb:=2) (x:=y) (l:=b) (i:=qg b y.v) rfl rfl (by decide) (by omega) hk (by omega)) ?_
   rintro r d ⟨k',a,rfl,rfl⟩
   conv=>whnf
   try dsimp only
   skip;exact ag.froze aF (l:=jq b (qg b y.v) y) (k:=k') rfl rfl (by rw[bZ]) (ag.slot rfl)
  .refine qZ.one aF (λy=>⟨rfl,rfl⟩) (x:=y) rfl ?_
   conv=>whnf
   try dsimp only
   repeat' refine gPr (pT ?_)<;>(conv=>whnf;try dsimp only)
   refine ae.raw (mu (l:=b) hb) ?_;rintro r e ⟨k,hk,rfl,rfl⟩
   conv=>whnf
   try dsimp only
   repeat' refine gPr (pT ?_)<;>(conv=>whnf;try dsimp only)
   refine ae.raw (tL (b:=2) (vb:=1) (x:=y) (l:=b) (i:=qg b y.v) rfl rfl (by decide) (by omega) hk (by omega)) ?_
   rintro r d ⟨k',a,rfl,rfl⟩
   conv=>whnf
   try dsimp only
   skip;exact ag.froze aF (l:=jq b (qg b y.v) y) (k:=k') rfl rfl (by rw[bZ]) (ag.slot rfl)
structure Pr where
 p:Tm
 t:Tm
def Pr.av(x:Pr):AV:=.agg [.int .i64 x.p.kind,.int .i64 x.p.num,.str x.p.name,.sl .no (x.p.args.map Tm.av),.int .i64 x.t.kind,.int .i64 x.t.num,.str x.t.name,.sl .no (x.t.args.map Tm.av)]
theorem qh:Plain Pr.av 8:=⟨by decide,λ_=>rfl,λx c h=>by
 simp[Pr.av,AV.cells] at h;rcases h with rfl|rfl|rfl|rfl|rfl|rfl|rfl|rfl<;>rfl,λx c h=>by
 simp[Pr.av,AV.cells] at h;rcases h with rfl|rfl|rfl|rfl|rfl|rfl|rfl|rfl<;>rfl⟩
def er:List Tm->List Tm->List Pr
 |a::l,b::m=>⟨a,b⟩::er l m
 |_,_=>[]
theorem xL:∀{l m:List Tm},l.length=m.length->(er l m).length=l.length
 |[],[],_=>rfl
 |a::l,b::m,h=>by rw[er,zX,xL (by simpa using h),zX]
theorem Cv:∀{l m:List Tm} {j:Nat} {a b:Tm},l[j]? =some a->m[j]? =some b->(er l m)[j]? =some ⟨a,b⟩
 |x::l,y::m,0,a,b,c,hb=>by simp at c hb;subst c hb;rfl
 |x::l,y::m,j+1,a,b,c,hb=>by
  rw[er,List.getElem?_cons_succ];exact Cv (by simpa using c) (by simpa using hb)
theorem xK{l m:List Tm}(g:l.length=m.length)(k:l.length<=1000000):Fun Tryz.prog 78 [slA Tm.av l,slA Tm.av m] (slA Pr.av (er l m)):=by
 have f:=xL g;refine Fun.of (tl (by simp) ?_) rfl rfl
 conv=>whnf
 repeat' (first|refine gL (.map ?_)|refine gN (nS ?_))<;>conv=>whnf
 refine ax.by (fb:=true) (λ_ (j:Nat)=>⟨[(0,slA Tm.av l),(1,slA Tm.av m),(5,.sl (.own 8) (((er l m).take j).map Pr.av)),(11,.int .i64 l.length),(12,.int .i64 (j:Int))],[],0⟩) (λj=>j<=l.length) (λj=>l.length-j) 0 (zJ _) ?_ ?_
 .rw [ZK,Zb];refine al.at_ ?_ rfl
  conv=>whnf
  refine And.intro ?_ ?_<;>conv=>whnf
  all_goals repeat' (first|(refine gV ?_;first|refine vE ?_|refine vI ?_|(refine WkN.sl ?_ ?_;(focus (simp[AV.norm,AV.ay,];done))))|exact True.intro)<;>conv=>whnf
 .intro j h
  by_cases e:j<l.length
  .obtain ⟨a,i⟩:∃a,l[j]? =some a:=⟨_,zA e⟩;obtain⟨b,hb⟩:∃b,m[j]? =some b:=⟨_,zA (by omega)⟩
   have c:=Cv i hb
   have d:(((er l m).take j).map Pr.av).length+[AV.agg [.int .i64 a.kind,.int .i64 a.num,.str a.name,.sl .no (a.args.map Tm.av),.int .i64 b.kind,.int .i64 b.num,.str b.name,.sl .no (b.args.map Tm.av)]].length<=lim:=by
    simp only[zF,zn,zU];unfold lim;omega
   conv=>whnf
   repeat' (first|refine gC (gD (cI ?_))|refine gW (wI ?_)|refine gN (nS ?_)|refine gI (gT (iA ?_)))<;>conv=>whnf
   refine⟨j+1,⟨e,by omega⟩,?_⟩
   rw[ZC,c,yK,zu];simp only[zP,Zb,Pr.av];exact aN
  .obtain rfl:j=l.length:=by omega
   rw[zl (by omega)]
   conv=>whnf
   repeat' (first|refine gC (gD (cJ ?_))|refine ag.nrm ?_)<;>conv=>whnf
   all_goals rfl
theorem Mv{bs:List Box}{n:Nat}(b:n<=10000000):AM.Sem Tryz.prog 188 [.sl .full [],.int .i64 n] bs λr bs'=>∃k,r=.bsl bs.length 0 k/\bs'=bs++[aJ Pr.av 8 k []]:=by
 refine du (by simp) ?_
 conv=>whnf
 try dsimp only
 repeat' (first|(refine gC ?_;first|refine gD (cJ ?_)|refine ak.lt (λa=>?_) (λa=>?_))|refine gW (wI ?_)|refine gL (.nil ?_)|refine gN (nS ?_))<;>(conv=>whnf;try dsimp only)
 .refine MJ.nil qh (by omega) λk hk=>?_
  conv=>whnf
  try dsimp only
  repeat' (first|refine gL (.nil ?_)|refine gN (nS ?_))<;>(conv=>whnf;try dsimp only)
  exact ag.slot ⟨k,rfl,rfl⟩
 .exact ag.sE 4 rfl (ag.slot ⟨0,rfl,rfl⟩)
theorem Iy{a b:List Pr}(g:a.length<=1000000)(hb:b.length<=1000000):Fun Tryz.prog 137 [.sl .no [slA Pr.av a,slA Pr.av b]] (slA Pr.av (a++b)):=by
 refine Fun.of (c8 (by simp) ?_) rfl rfl
 conv=>whnf
 try dsimp only
 repeat' refine gL (.any ?_)<;>(conv=>whnf;try dsimp only)
 refine ax.by (fb:=false) (λ_ (q:Nat×Nat)=>⟨[(0,.sl .no [slA Pr.av a,slA Pr.av b]),(3,.int .i64 (q.2:Int)),(9,.sl .no [slA Pr.av a,slA Pr.av b]),(10,.int .i64 2),(11,.int .i64 (q.1:Int))],[],0⟩) (λq=>q=(0,0)\/q=(1,a.length)\/q=(2,a.length+b.length)) (λq=>2-q.1) (0,0) (.inl rfl) ?_ ?_
 .refine al.atS ?_ rfl rfl
  conv=>whnf
  repeat' (first|(refine gV ?_;first|refine vE ?_|refine vI ?_|(refine WkN.norm ?_ ?_;(focus (simp[AV.norm,AV.ay,];done))))|exact True.intro)<;>conv=>whnf
 .rintro q (rfl|rfl|rfl)
  .conv=>whnf
   try dsimp only
   repeat' (first|(refine gC ?_;(refine gD ?_;first|refine cI ?_|refine cJ ?_))|refine gW (wI ?_)|refine gL (.map ?_)|refine gI (iJ ?_))<;>(conv=>whnf;try dsimp only)
   refine⟨(1,a.length),⟨.inr (.inl rfl),by dsimp only;omega⟩,?_⟩
   refine al.atS ?_ rfl rfl
   conv=>whnf
   repeat' (first|(refine gV ?_;first|refine vE ?_|refine vI ?_)|exact True.intro)<;>conv=>whnf
  .conv=>whnf
   try dsimp only
   repeat' (first|(refine gC ?_;(refine gD ?_;first|refine cI ?_|refine cJ ?_))|refine gW (wI ?_)|refine gL (.map ?_)|refine gI (iJ ?_))<;>(conv=>whnf;try dsimp only)
   refine⟨(2,a.length+b.length),⟨.inr (.inr rfl),by dsimp only;omega⟩,?_⟩
   refine al.atS ?_ rfl rfl
   conv=>whnf
   repeat' (first|(refine gV ?_;first|refine vE ?_|refine vI ?_)|exact True.intro)<;>conv=>whnf
  .conv=>whnf
   try dsimp only
   repeat' refine gC (gD (cJ ?_))<;>(conv=>whnf;try dsimp only)
   refine ae.raw (Mv (n:=a.length+b.length) (by omega)) ?_
   rintro r h ⟨k,rfl,rfl⟩
   conv=>whnf
   try dsimp only
   repeat' refine gL (.any ?_)<;>(conv=>whnf;try dsimp only)
   refine ax.by (fb:=false) (λ_ (q:Nat×List Box×Nat×Nat×Nat)=>⟨[(6,.bsl q.2.2.1 q.2.2.2.1 q.2.2.2.2),(25,.sl .no [slA Pr.av a,slA Pr.av b]),(26,.int .i64 2),(27,.int .i64 (q.1:Int))],q.2.1,0⟩) (λq=>q=(0,[aJ Pr.av 8 k []],0,0,k)\/(∃d,a.length<=d/\q=(1,[.dead,aJ Pr.av 8 d a],1,a.length,d))\/∃k2,(a++b).length<=k2/\q=(2,[.dead,.dead,aJ Pr.av 8 k2 (a++b)],2,(a++b).length,k2)) (λq=>2-q.1) (0,[aJ Pr.av 8 k []],0,0,k) (.inl rfl) ?_ ?_
   .refine al.atS ?_ rfl rfl
    conv=>whnf
    repeat' (first|(refine gV ?_;first|refine vE ?_|refine vI ?_|(refine WkN.norm ?_ ?_;(focus (simp[AV.norm,AV.ay,];done))))|exact True.intro)<;>conv=>whnf
   .rintro q (rfl|⟨d,e,rfl⟩|⟨k2,f,rfl⟩)
    .conv=>whnf
     try dsimp only
     repeat' (first|refine gC (gD (cI ?_))|refine gI (iJ ?_))<;>(conv=>whnf;try dsimp only)
     refine oe.row qh (l:=[]) (l':=a) rfl rfl (zJ _) (by omega) λk' c=>?_
     conv=>whnf
     try dsimp only
     repeat' refine gW (wI ?_)<;>(conv=>whnf;try dsimp only)
     refine⟨(1,[.dead,aJ Pr.av 8 k' a],1,a.length,k'),⟨.inr (.inl ⟨k',c,rfl⟩),by dsimp only;omega⟩,?_⟩
     refine al.atS ?_ rfl rfl
     conv=>whnf
     repeat' (first|(refine gV ?_;first|refine vE ?_|refine vI ?_|(refine WkN.norm ?_ ?_;(focus (simp[AV.norm,AV.ay,];done))))|exact True.intro)<;>conv=>whnf
    .conv=>whnf
     try dsimp only
     repeat' (first|refine gC (gD (cI ?_))|refine gI (iJ ?_))<;>(conv=>whnf;try dsimp only)
     refine oe.row qh (l:=a) (l':=b) rfl rfl e (by omega) λk' c=>?_
     conv=>whnf
     try dsimp only
     repeat' refine gW (wI ?_)<;>(conv=>whnf;try dsimp only)
     refine⟨(2,[.dead,.dead,aJ Pr.av 8 k' (a++b)],2,(a++b).length,k'),⟨.inr (.inr ⟨k',c,rfl⟩),by dsimp only;omega⟩,?_⟩
     refine al.atS ?_ rfl rfl
     conv=>whnf
     repeat' (first|(refine gV ?_;first|refine vE ?_|refine vI ?_|(refine WkN.norm ?_ ?_;(focus (simp[AV.norm,AV.ay,];done))))|exact True.intro)<;>conv=>whnf
    .conv=>whnf
     try dsimp only
     repeat' refine gC (gD (cJ ?_))<;>(conv=>whnf;try dsimp only)
     exact ag.froze qh (l:=a++b) (k:=k2) rfl rfl rfl (ag.slot rfl)
end Go.CK
