/-
  By an AI agent.
-/
import Derived.Test.YtcjfkbdbcgmomaaGreatDoorQbg
import Derived.Lib.RowBridge
import Derived.Lib.AppendIntMem
set_option linter.unusedSimpArgs false
set_option linter.unusedVariables false
set_option maxRecDepth 100000
namespace Go.AM
open Go.CK Go.RowKit Go.Proofs
theorem bf{b:Nat}:∀(us:List Value) (o:Nat) (w:World),(w.setCells b o us).os=w.os/\(w.setCells b o us).tape=w.tape/\(w.setCells b o us).output=w.output/\(w.setCells b o us).heap.size=w.heap.size/\∀k,k≠b->(w.setCells b o us).heap[k]? =w.heap[k]?
 |[],o,w=>⟨rfl,rfl,rfl,rfl,λ_ _=>rfl⟩
 |v::r,o,w=>by
  obtain⟨f,e,d,c,a⟩:=bf r (o+1) (w.setCell ⟨b,o,none⟩ v) (b:=b);rw[World.setCells];exact⟨f,e,d,c.trans (by simp[World.setCell]),λk hk=>(a k hk).trans (Below.heap_setCell _ _ _ _ hk)⟩
section
variable{E:Entry}{G:Gh}{a0:Act}{w:World}{bs:List Box}{lo:Nat}
theorem RS.yn(a:RS E G ⟨[],bs,lo⟩ a0 w):RS (bR G bs w 1) {G with cl:=fq G.cl} ⟨[],bs,bs.length⟩ ⟨#[.tuple #[]],[]⟩ w:=
 a.sI (bR G bs w 1) ⟨#[.tuple #[]],[]⟩ (Fr.refl _ _ _ a.fr.kn) rfl bs.length rfl (zG _) (λ_ _=>rfl) (λB hB=>.inl hB) rfl
theorem LI(g:RS E G ⟨[],bs,lo⟩ a0 w){b:Nat}{x:TB}{l:List TR}{r:TR}(hb:bs[b]? =some (.tab x))(d:kG x l)(hr:r∈l)(r':TR)(hk:r'.key=r.key)(hB:r'.B=r.B)(j:r'.cap=r.cap){w':World}
  (n:w'.heap[r.B]? =some (.cells r'.ab.toArray r'.T (0,0))) (h:w'.os=w.os) (e:w'.tape=w.tape) (c:w'.output=w.output) (f:w'.heap.size=w.heap.size) (a:∀k,k≠r.B->w'.heap[k]? =w.heap[k]?):
  ∃bs' G' i,jk i l r'/\bs'=bs.set b (.tab i)/\RS (bR G bs w 1) G' ⟨[(0,r'.lit)],bs',bs.length⟩ ⟨#[r'.val],[]⟩ w':=by
 have m:=g.yn.HG (b:=b) (x:=x) hb (B:=r.B) (o':=.cells r'.ab.toArray r'.T (0,0)) (d.rows r hr) n h e c (by omega) (λk _ hk=>a k hk)
 refine⟨_,_,_,d.NC hr hk hB (by rw[j];exact d.cap r hr),?_,m.put (k:=0) Zw (x:=r'.lit) (v:=r'.val) (.flat (.lit _ _ _))⟩
 simp only[TR.row,hB]
theorem Jl(a:RS E G ⟨[],bs,lo⟩ a0 w){b:Nat}{x:TB}{l:List TR}(hb:bs[b]? =some (.tab x))(g:kG x l)(r':TR)(hB:r'.B=w.heap.size)(m:r'.cap<=9223372036854775807){w':World}
  (s:w'.heap[w.heap.size]? =some (.cells r'.ab.toArray r'.T (0,0))) (j:w'.os=w.os) (h:w'.tape=w.tape) (d:w'.output=w.output) (hold:∀k,k<w.heap.size->w'.heap[k]? =w.heap[k]?):
  ∃bs' G' r,jk r l r'/\bs'=bs.set b (.tab r)/\RS (bR G bs w 1) G' ⟨[(0,r'.lit)],bs',bs.length⟩ ⟨#[r'.val],[]⟩ w':=by
 have n:=a.yn;have t:=(zh.1 s).1
 have y:=n.grow (M':=G.M) (w':=w') ⟨j,h,d,by omega,Hp.le_refl _,λB hB _=>hold B hB,λ_ _ _ _=>rfl⟩ (λB o u hu=>by
  have f:=a.ok B o u hu;simp only[Hp.of] at f|-;rw[bN (hold B (Hp.lt a.ok hu))];exact f)
 have f:=y.K5 (b:=b) (x:=x) hb g.jB (B:=w.heap.size) s rfl (.inr (zG _)) (λk=>by
  cases i:G.M w.heap.size k with
  |none=>rfl
  |some v=>exact absurd (Hp.lt a.ok i) (Nat.lt_irrefl _)) (λp hp=>absurd (n.cllt p _ hp).1 (Nat.lt_irrefl _)) (λc cs m e=>absurd (n.blt m) (by rw[show ({G with cl:=fq G.cl}:Gh).σ c=w.heap.size from e];exact Nat.lt_irrefl _))
 refine⟨_,_,_,g.ND (r':=r') (λq i e=>?_) m,?_,f.put (k:=0) Zw (x:=r'.lit) (v:=r'.val) (.flat (.lit _ _ _))⟩
 .have:=(a.cllt _ _ (a.tY hb (g.rows q i)).2.1).1;omega
 .simp only[TR.row,hB]
end
theorem Mi{ids:List Int}{k m:Nat}{id:Int}(hk:k<=ids.length):
  tz (tz ((ids.map (Value.int .i64)).take k++(List.replicate (ids.length+1-k) (Value.int .i64 0)++List.replicate m (Value.int .i64 0))) k [.int .i64 id]) (k+1) ((ids.map (Value.int .i64)).drop k)=(hU ids k id).map (Value.int .i64)++List.replicate m (Value.int .i64 0):=by
 refine Zo λj=>?_;have a:((ids.map (Value.int .i64)).take k++(List.replicate (ids.length+1-k) (Value.int .i64 0)++List.replicate m (Value.int .i64 0))).length=ids.length+1+m:=by simp;omega
 rw[nJ _ _ _ _ (by rw[vm,a];simp;omega),nJ _ _ _ _ (by rw[a];simp;omega)]
 simp only[zX,ZP,Zd,zF,hU]
 by_cases c:k+1<=j/\j<k+1+(ids.length-k)
 .rw [if_pos c,List.getElem?_drop,zK (by simp;omega),ZF,ZF,zZ (by simp;omega)]
  simp only[zn,yH hk];rw[show j-k=(j-(k+1))+1 by omega,List.getElem?_cons_succ,List.getElem?_drop]
 .rw [if_neg c]
  by_cases d:j=k
  .subst d;rw[if_pos (by omega),yN,zK (by simp;omega),ZF,zZ (by simp;omega)]
   simp[yH hk]
  .rw [if_neg (by omega)]
   by_cases b:j<k
   .rw [zK (by simp;omega),zK (by simp;omega),List.getElem?_take_of_lt b,ZF,ZF,zK (by simp;omega),List.getElem?_take_of_lt b]
   .rw [zZ (by simp;omega),zZ (by simp;omega),zZ (by simp;omega)]
    simp only[zF,zC,zn,zX,Zd,zf,yH hk];congr 1;omega
theorem pb(n:Nat):(Builtin.zeroCells (Value.int .i64 0).cells n).toList=List.replicate n (Value.int .i64 0):=by
 refine Zo λj=>?_
 by_cases h:j<n
 .simp [Builtin.zeroCells,Value.cells,List.getElem?_replicate,Nat.mod_one,h]
 .simp [Builtin.zeroCells,Value.cells,List.getElem?_replicate,Nat.mod_one,h]
theorem Hy{bs:List Box}{b vb:Nat}{x:TB}{l:List TR}{r:TR}{k:Nat}{id:Int}(hb:bs[b]? =some (.tab x))(M:kG x l)(hr:r∈l)(z:bs[vb]? =some (.row [.int .i64 id]))(hk:k<=r.ids.length)(hn:r.ids.length<=1000000):
  AM.Sem Tryz.prog 106 [r.lit,.int .i64 (k:Nat),.bsl vb 1 1] bs λv bs'=>∃r' f,v=r'.lit/\r'.key=r.key/\r'.ids=hU r.ids k id/\jk f l r'/\bs'=bs.set b (.tab f):=by
 intro E G a0 w args lo h hlen Z;have I:aa bs vb=some [.int .i64 id]:=by simp[aa,z,Box.cs?]
 obtain rfl:=Mq (u:=r.val) hlen (λv z=>RV.ot z) Z;obtain⟨N,Tv,C,hvl⟩:=h.box vb _ I;obtain⟨u,V,_,U⟩:=h.wq I 0 (by simp)
 obtain rfl:u=.int .i64 id:=RV.aK U;obtain⟨t,hR2,hR3⟩:=h.tY hb (M.rows r hr);have W:G.σ vb≠r.B:=h.clbox _ _ hR2 vb _ I;have g:=qW t
 have hvs:∀j v,[Value.int .i64 id][j]? =some v->w.cell? ⟨G.σ vb,0+j,none⟩=some v:=λj v d=>by
  match j,d with
  |0,d=>cases d;exact V
 have H:∀j v,(r.ids.map (Value.int .i64))[j]? =some v->w.cell? ⟨r.B,0+j,none⟩=some v:=λj v d=>by
  have F:=(zB.1 d).1;rw[ZI,(g j).1,TR.ab,zK F];exact d
 have y:∀v∈[Value.int .i64 id],v.oneCell'=true:=λv z=>by simp at z;subst z;rfl
 have L:∀v∈r.ids.map (Value.int .i64),v.oneCell'=true:=λv z=>by obtain⟨q,_,rfl⟩:=zk.1 z;rfl
 have A:=M.cap r hr;have hvz:r.ab.length=r.cap:=by simp[TR.ab,TR.cap]
 have fin:∀(r':TR) (w':World),r'.key=r.key->r'.ids=hU r.ids k id->(∃bs' G' f,jk f l r'/\bs'=bs.set b (.tab f)/\RS (bR G bs w 1) G' ⟨[(0,r'.lit)],bs',bs.length⟩ ⟨#[r'.val],[]⟩ w')->
   ∃v q bs' G',Ending.returned r'.val=.returned v/\(∃r' f,q=r'.lit/\r'.key=r.key/\r'.ids=hU r.ids k id/\jk f l r'/\bs'=bs.set b (.tab f))/\RS (bR G bs w 1) G' ⟨[(0,q)],bs',bs.length⟩ ⟨#[v],[]⟩ w':=λr' w' h1 h2 ⟨bs',G',f,h3,h4,h5⟩=>
  ⟨_,_,_,_,rfl,⟨r',f,rfl,h1,h2,h3,h4⟩,h5⟩
 have J:∀w',r.junk≠[]->(∃us o,w'=(w.drew.setCells r.B (0+(k+1)) ((r.ids.map (Value.int .i64)).drop k)).setCells r.B (0+k) [.int .i64 id]\/(w'=w.setCells r.B (0+k) [.int .i64 id]/\k=r.ids.length/\us=0/\o=0))->
   ∃v q bs' G',Ending.returned (.slice (some ⟨r.B,0,none⟩) (r.ids.length+1) r.cap)=.returned v/\(∃r' f,q=r'.lit/\r'.key=r.key/\r'.ids=hU r.ids k id/\jk f l r'/\bs'=bs.set b (.tab f))/\RS (bR G bs w 1) G' ⟨[(0,q)],bs',bs.length⟩ ⟨#[v],[]⟩ w':=λw' d c=>by
  have F:0<r.junk.length:=List.length_pos_iff.2 d
  have hq:w'.heap[r.B]? =some (.cells ((hU r.ids k id).map (Value.int .i64)++r.junk.drop 1).toArray r.T (0,0))/\w'.os=w.os/\w'.tape=w.tape/\w'.output=w.output/\w'.heap.size=w.heap.size/\∀j,j≠r.B->w'.heap[j]? =w.heap[j]?:=by
   obtain⟨_,_,rfl|⟨rfl,s,_⟩⟩:=c
   .have s1:=dp (b:=r.B) ((r.ids.map (Value.int .i64)).drop k) r.ab (0+(k+1)) w.drew t;have s2:=dp (b:=r.B) [.int .i64 id] _ (0+k) _ s1.1;obtain⟨a1,a2,a3,a4,a5⟩:=bf (b:=r.B) ((r.ids.map (Value.int .i64)).drop k) (0+(k+1)) w.drew;obtain⟨b1,b2,b3,b4,b5⟩:=bf (b:=r.B) [.int .i64 id] (0+k) (w.drew.setCells r.B (0+(k+1)) ((r.ids.map (Value.int .i64)).drop k));refine⟨?_,b1.trans a1,b2.trans a2,b3.trans a3,b4.trans a4,λj d=>(b5 j d).trans (a5 j d)⟩;rw[s2.1,TR.ab,ZI,ZI,Kb hk d]
   .have s2:=dp (b:=r.B) [.int .i64 id] r.ab (0+k) w t;obtain⟨b1,b2,b3,b4,b5⟩:=bf (b:=r.B) [.int .i64 id] (0+k) w;refine⟨?_,b1,b2,b3,b4,b5⟩;have:=Kb (ids:=r.ids) (junk:=r.junk) (k:=k) (id:=id) hk d;rw[show (r.ids.map (Value.int .i64)).drop k=[] from List.drop_eq_nil_of_le (by simp;omega)] at this
    rw[s2.1,TR.ab,ZI,<-this];rfl
  obtain⟨S,R,Q,P,O,q6⟩:=hq;have n:(⟨r.key,hU r.ids k id,r.born,r.B,r.junk.drop 1,r.T⟩:TR).cap=r.cap:=by simp only[TR.cap,qN,Zd];omega
  have:=fin ⟨r.key,hU r.ids k id,r.born,r.B,r.junk.drop 1,r.T⟩ w' rfl rfl (LI h hb M hr ⟨r.key,hU r.ids k id,r.born,r.B,r.junk.drop 1,r.T⟩ rfl rfl n S R Q P O q6);simp only[TR.val,n,qN] at this;exact this
 have jo:∀w' gc,r.ids.length+1<=gc->gc<=9223372036854775807->w'.heap[w.heap.size]? =some (.cells ((hU r.ids k id).map (Value.int .i64)++List.replicate (gc-(r.ids.length+1)) (Value.int .i64 0)).toArray 3 (0,0))->w'.os=w.os->w'.tape=w.tape->w'.output=w.output->(∀j,j<w.heap.size->w'.heap[j]? =w.heap[j]?)->
   ∃v q bs' G',Ending.returned (.slice (some ⟨w.heap.size,0,none⟩) (r.ids.length+1) gc)=.returned v/\(∃r' f,q=r'.lit/\r'.key=r.key/\r'.ids=hU r.ids k id/\jk f l r'/\bs'=bs.set b (.tab f))/\RS (bR G bs w 1) G' ⟨[(0,q)],bs',bs.length⟩ ⟨#[v],[]⟩ w':=λw' gc g1 g2 S R Q P O=>by
  have n:(⟨r.key,hU r.ids k id,0,w.heap.size,List.replicate (gc-(r.ids.length+1)) (Value.int .i64 0),3⟩:TR).cap=gc:=by simp only[TR.cap,qN,zf];omega
  have:=fin ⟨r.key,hU r.ids k id,0,w.heap.size,List.replicate (gc-(r.ids.length+1)) (Value.int .i64 0),3⟩ w' rfl rfl (Jl h hb M ⟨r.key,hU r.ids k id,0,w.heap.size,List.replicate (gc-(r.ids.length+1)) (Value.int .i64 0),3⟩ rfl (by rw[n];exact g2) S R Q P O)
  simp only[TR.val,n,qN] at this;exact this
 by_cases d:r.junk=[]
 .have hc:r.cap=r.ids.length:=by simp[TR.cap,d]
  have K:=grownCap_ge w (r.ids.length+1) r.cap 3;have Y:=grownCap_le_maxLen w (r.ids.length+1) r.cap 3 (by unfold maxLen;omega)
  unfold maxLen at Y;rcases zt k r.ids.length with D|X
  .refine (Any2.slices_Insert_int_grow Tryz.i1 r.B 0 r.ids.length r.cap k (G.σ vb) 0 1 1 (r.ids.map (Value.int .i64)) [.int .i64 id] w D (by omega) (by omega) (by omega) (by omega) (by simp) rfl H hvs L y).mono ?_
   rintro e w' ⟨rfl,c⟩;have c:w'=(((w.alloc (.cells (((r.ids.map (Value.int .i64)).take k).toArray++Builtin.zeroCells (Value.int .i64 0).cells (r.ids.length+1-k)++Builtin.zeroCells (Value.int .i64 0).cells (grownCap w (r.ids.length+1) r.cap 3-(r.ids.length+1))) 3)).drew.setCells w.heap.size k [.int .i64 id]).drew).setCells w.heap.size (k+1) ((r.ids.map (Value.int .i64)).drop k):=c;refine jo w' (grownCap w (r.ids.length+1) r.cap 3) K (by omega) ?_ ?_ ?_ ?_ ?_
   .have i:((r.ids.map (Value.int .i64)).take k).toArray++Builtin.zeroCells (Value.int .i64 0).cells (r.ids.length+1-k)++Builtin.zeroCells (Value.int .i64 0).cells (grownCap w (r.ids.length+1) r.cap 3-(r.ids.length+1))=((r.ids.map (Value.int .i64)).take k++(List.replicate (r.ids.length+1-k) (Value.int .i64 0)++List.replicate (grownCap w (r.ids.length+1) r.cap 3-(r.ids.length+1)) (Value.int .i64 0))).toArray:=by
     apply Array.ext';simp only[Array.toList_append,pb,zg]
    rw[i] at c;have a0:=heap_alloc_new w (.cells ((r.ids.map (Value.int .i64)).take k++(List.replicate (r.ids.length+1-k) (Value.int .i64 0)++List.replicate (grownCap w (r.ids.length+1) r.cap 3-(r.ids.length+1)) (Value.int .i64 0))).toArray 3);have s1:=dp (b:=w.heap.size) [.int .i64 id] _ k (w.alloc (.cells ((r.ids.map (Value.int .i64)).take k++(List.replicate (r.ids.length+1-k) (Value.int .i64 0)++List.replicate (grownCap w (r.ids.length+1) r.cap 3-(r.ids.length+1)) (Value.int .i64 0))).toArray 3)).drew a0;have s2:=dp (b:=w.heap.size) ((r.ids.map (Value.int .i64)).drop k) _ (k+1) ((w.alloc (.cells ((r.ids.map (Value.int .i64)).take k++(List.replicate (r.ids.length+1-k) (Value.int .i64 0)++List.replicate (grownCap w (r.ids.length+1) r.cap 3-(r.ids.length+1)) (Value.int .i64 0))).toArray 3)).drew.setCells w.heap.size k [.int .i64 id]).drew s1.1;rw[c,s2.1,Mi hk]
   .rw [c,(bf _ _ _).1];exact(bf _ _ _).1
   .rw [c,(bf _ _ _).2.1];exact(bf _ _ _).2.1
   .rw [c,(bf _ _ _).2.2.1];exact(bf _ _ _).2.2.1
   .intro j d;rw[c,(bf _ _ _).2.2.2.2 j (by omega)]
    exact((bf _ _ _).2.2.2.2 j (by omega)).trans (Below.heap_alloc _ _ _ d)
  .have s:k=r.ids.length:=by omega
   subst s;refine(Any2.slices_Insert_int_end_grow Tryz.i1 (some ⟨r.B,0,none⟩) r.ids.length r.cap (G.σ vb) 0 1 1 (r.ids.map (Value.int .i64)) [.int .i64 id] w (by omega) (by omega) (by omega) (by omega) (by simp) rfl (λe=>by cases e) (λa ha j v d=>by cases ha;rw[Addr.add_lit];exact H j v d) hvs y).mono ?_
   rintro e w' ⟨rfl,c⟩;have c:w'=w.drew.alloc (.cells ((r.ids.map (Value.int .i64)++[Value.int .i64 id]).toArray++Builtin.zeroCells (Value.int .i64 0).cells (grownCap w (r.ids.length+1) r.cap 3-(r.ids.length+1))) 3):=c;refine jo w' (grownCap w (r.ids.length+1) r.cap 3) K (by omega) ?_ ?_ ?_ ?_ ?_
   .have i:(r.ids.map (Value.int .i64)++[Value.int .i64 id]).toArray++Builtin.zeroCells (Value.int .i64 0).cells (grownCap w (r.ids.length+1) r.cap 3-(r.ids.length+1))=((hU r.ids r.ids.length id).map (Value.int .i64)++List.replicate (grownCap w (r.ids.length+1) r.cap 3-(r.ids.length+1)) (Value.int .i64 0)).toArray:=by
     apply Array.ext';simp[pb,hU]
    rw[c,i];exact heap_alloc_new w.drew _
   .rw [c];rfl
   .rw [c];rfl
   .rw [c];rfl
   .intro j d;rw[c];exact Below.heap_alloc w.drew _ _ d
 .have F:0<r.junk.length:=List.length_pos_iff.2 d;have m:r.ids.length+1<=r.cap:=by simp[TR.cap];omega
  have p:∀j,j<r.cap->(w.cell? ⟨r.B,0+j,none⟩).isSome=true/\w.frozen? ⟨r.B,0+j,none⟩=false:=λj hjc=>by
   rw[ZI];exact⟨by rw[(g j).1,zA (by omega)];rfl,(g j).2⟩
  rcases zt k r.ids.length with D|X
  .refine (Any2.slices_Insert_int_shift Tryz.i1 r.B 0 r.ids.length r.cap k (G.σ vb) 0 1 1 (r.ids.map (Value.int .i64)) [.int .i64 id] w D (by omega) m A W (by simp) rfl H (λj d=>(p j (by omega)).1) (λj d=>(p j (by omega)).2) hvs L y Tv r.T N.size r.ab.length (by simp[World.shape?,C]) (by simp[World.shape?,t]) (by omega) (by simp[World.frozen?,C]) (by simp[World.frozen?,C])).mono ?_
   rintro e w' ⟨rfl,rfl⟩;exact J _ d ⟨0,0,.inl rfl⟩
  .have s:k=r.ids.length:=by omega
   subst s;refine(Any2.slices_Insert_int_end_room Tryz.i1 r.B 0 r.ids.length r.cap (G.σ vb) 0 1 1 [.int .i64 id] w (by omega) m A rfl (λj d=>by rw[Zk];exact(p _ (by omega)).1) (λj d=>by rw[Zk];exact(p _ (by omega)).2) hvs y).mono ?_
   rintro e w' ⟨rfl,rfl⟩;exact J _ d ⟨0,0,.inr ⟨rfl,rfl,rfl,rfl⟩⟩
theorem C4{M:Hp}{σ:Nat->Nat}{n vb:Nat}{a:AV}{at_:Int}{args:List Value}(g:args.length=3)(b:∀j (h:j<[a,AV.int .i64 at_,AV.bsl vb 1 1].length) v,args[j]? =some v->RV M σ n ([a,AV.int .i64 at_,AV.bsl vb 1 1][j]) v):∃u,RV M σ n a u/\args=[u,.int .i64 at_,.slice (some ⟨σ vb,0,none⟩) 1 1]:=by
 match args,g with
 |[x,y,z],_=>
  have f:=b 0 (by simp) x rfl
  have d:=b 1 (by simp) y rfl
  have c:=b 2 (by simp) z rfl
  simp only[ZQ,Zg] at f d c;obtain⟨i,e,_,_,_,he⟩:=c.cj;exact⟨x,f,by rw[d.aK,e,he (by omega)]⟩
theorem y7{bs:List Box}{b vb:Nat}{x:TB}{l:List TR}(key:ByteArray){id:Int}(hb:bs[b]? =some (.tab x))(z:kG x l)(k:bs[vb]? =some (.row [.int .i64 id])):
  AM.Sem Tryz.prog 106 [.sl .full [],.int .i64 0,.bsl vb 1 1] bs λv bs'=>∃r' i,v=r'.lit/\r'.key=key/\r'.ids=[id]/\jk i l r'/\bs'=bs.set b (.tab i):=by
 intro E G a0 w args lo f hlen s;have r:aa bs vb=some [.int .i64 id]:=by simp[aa,k,Box.cs?]
 obtain⟨q,A,rfl⟩:=C4 hlen s;obtain⟨H,y,_,_,_,rfl,_,_,_,o,_⟩:=A.cX;obtain rfl:y=0:=o rfl;obtain⟨u,n,_,m⟩:=f.wq r 0 (by simp)
 obtain rfl:u=.int .i64 id:=RV.aK m
 have hvs:∀j v,[Value.int .i64 id][j]? =some v->w.cell? ⟨G.σ vb,0+j,none⟩=some v:=λj v d=>by
  match j,d with
  |0,d=>cases d;exact n
 have t:∀v∈[Value.int .i64 id],v.oneCell'=true:=λv k=>by simp at k;subst k;rfl
 have B:=grownCap_ge w (0+1) 0 3;have p:=grownCap_le_maxLen w (0+1) 0 3 (by unfold maxLen;omega)
 unfold maxLen at p;refine(Any2.slices_Insert_int_end_grow Tryz.i1 H 0 0 (G.σ vb) 0 1 1 [] [.int .i64 id] w (by omega) (by omega) (by omega) (by omega) rfl rfl (λ_=>rfl) (λa I j v d=>by simp at d) hvs t).mono ?_
 rintro e w' ⟨rfl,c⟩;have c:w'=w.drew.alloc (.cells (([]++[Value.int .i64 id]).toArray++Builtin.zeroCells (Value.int .i64 0).cells (grownCap w (0+1) 0 3-(0+1))) 3):=c;have h:(⟨key,[id],0,w.heap.size,List.replicate (grownCap w (0+1) 0 3-(0+1)) (Value.int .i64 0),3⟩:TR).cap=grownCap w (0+1) 0 3:=by simp only[TR.cap,zX,ZP,zf];omega
 have g:([]++[Value.int .i64 id]).toArray++Builtin.zeroCells (Value.int .i64 0).cells (grownCap w (0+1) 0 3-(0+1))=(⟨key,[id],0,w.heap.size,List.replicate (grownCap w (0+1) 0 3-(0+1)) (Value.int .i64 0),3⟩:TR).ab.toArray:=by
  apply Array.ext';simp[pb,TR.ab]
 rw[g] at c;subst c;obtain⟨bs',G',i,F,D,C⟩:=Jl (w':=w.drew.alloc (.cells (⟨key,[id],0,w.heap.size,List.replicate (grownCap w (0+1) 0 3-(0+1)) (Value.int .i64 0),3⟩:TR).ab.toArray 3)) f hb z ⟨key,[id],0,w.heap.size,List.replicate (grownCap w (0+1) 0 3-(0+1)) (Value.int .i64 0),3⟩ rfl (by rw[h];omega) (heap_alloc_new w.drew _) rfl rfl rfl (λj d=>Below.heap_alloc w.drew _ _ d)
 refine⟨_,_,bs',G',?_,⟨_,i,rfl,rfl,rfl,F,D⟩,C⟩;simp only[TR.val,h];rfl
theorem EK{E:Entry}{G:Gh}{a0:Act}{w w':World}{bs:List Box}{lo:Nat}(hs:RS E G ⟨[],bs,lo⟩ a0 w){b:List Int}(D:b.length<=lim){v:Value}{T:TypeId}(d:w'.ownsRow w.heap.size T 1 v b.length (b.map (Value.int .i64)))(hb:Below w.heap.size w w'):
  ∃G',RS (bR G bs w 1) G' ⟨[(0,slA aG b)],bs,bs.length⟩ ⟨#[v],[]⟩ w':=by
 have K:=hs.yn;have c:∀B o u,G.M B o=some u->B<w.heap.size:=λB o u hu=>Hp.lt hs.ok hu
 have hle:G.M.le (G.M.plus w w'):=λB o u hu=>by
  unfold Hp.plus;rw[if_neg (by have:=c B o u hu;omega)];exact hu
 have n:(G.M.plus w w').le (Hp.of w'):=λB o u hu=>by
  unfold Hp.plus at hu;split at hu
  .exact hu
  .exact (hb.cell (p:=⟨B,o,none⟩) (c B o u hu)).trans (hs.ok _ _ _ hu)
 have f:=K.grow (M':=G.M.plus w w') (w':=w') ⟨hb.os,hb.tape,hb.output,hb.size,hle,λB hB _=>hb.block B hB,λB hB _ o=>by unfold Hp.plus;rw[if_neg (by omega)]⟩ n
 refine⟨_,f.put (k:=0) Zw (x:=slA aG b) (.flat ?_)⟩;rcases d.2 with ⟨rfl,m⟩|⟨g,cap,cur,rfl,A,z,y,J,I,t⟩
 .have:b=[]:=zL m;subst this;exact FV.jw (l:=[]) (B:=0) (off:=0) (sz:=1) (by simp) (zG _) (zJ _) (by simp) (λh=>absurd rfl h) (λi s=>by cases s)
 .have C:gl (G.M.plus w w') g 0 1 (b.map aG):=λi s=>by
   have r:i<b.length:=by simpa using s
   refine⟨by simp[aG,AV.cells],λj H=>?_⟩
   have q:j=0:=by simp[aG,AV.cells] at H;omega
   subst q;have F:i<cur.size:=by omega
   have e:cur[i]? =some (.int .i64 b[i]):=by
    have f:(cur.toList.take (b.length*1))[i]? =(b.map (Value.int .i64))[i]?:=by rw[t]
    rw[List.getElem?_take_of_lt (by omega)] at f
    simpa[r] using f
   refine⟨.int .i64 b[i],?_,rfl,?_⟩
   .unfold Hp.plus;rw[if_pos A];simp only[World.cell?,z];simpa using e
   .simp only[ZD,aG,AV.cells];exact .int _ _
  have:=FV.jw (M:=G.M.plus w w') (o:=.no) (l:=b.map aG) (a:=some ⟨g,0,none⟩) (k:=cap) (B:=g) (off:=0) (sz:=1) (by simp) (by simpa using y) (by simpa using D) (by simp) (λ_=>rfl) C
  rw[zF] at this;exact this
theorem Jm{bs:List Box}{b:Nat}{x:TB}{l:List TR}{r:TR}(hb:bs[b]? =some (.tab x))(i:kG x l)(hr:r∈l)(p:r.ids.length<=1000000):
  AM.Sem Tryz.prog 44 [r.lit] bs λv bs'=>v=slA aG r.ids/\bs'=bs:=by
 intro E G a0 w args lo c hlen f
 obtain rfl:args=[r.val]:=by
  match args,hlen with
  |[u],_=>rw[RV.ot (f 0 (by simp) u rfl)];rfl
 obtain⟨g,m,k⟩:=c.tY hb (i.rows r hr);have a:=qW g;refine(Any.slices_Clone_int Tryz.Fb r.B 0 r.ids.length r.cap r.ids w (zG _) (by omega) (λj d=>?_)).mono ?_
 .rw [ZI,(a j).1,TR.ab,zK (by simpa using d),ZF,zA d]
  simp[List.getD,d]
 rintro e w' ⟨v',rfl,h,_,o⟩;rw[zz] at h;obtain⟨G',n⟩:=EK c (by unfold lim;omega) h o
 exact⟨_,_,_,G',rfl,⟨rfl,rfl⟩,n⟩
end Go.AM
namespace Go.CK
open Go.RowKit Go.Proofs
abbrev IsW(B b:Nat)(l:List UInt8)(w:World):Prop:=Lib.IsBuilder 162 5 B b (Lib.byteCells l) w
theorem NR:liesAt Tryz.prog Tryz.prog.depth 162 (2/Tryz.prog.cellsOf 162) 0 160 1=true:=by kernel_rfl
theorem Nk:(Tryz.prog.info? 160).map (·.size)=some 2:=by kernel_rfl
theorem mf{w:World}{b:Nat}{o:Obj}(h:w.heap[b]? =some o):b<w.heap.size:=(zh.1 h).1
structure Kq(b:Nat)(w w':World):Prop where
 size:w.heap.size<=w'.heap.size
 keep:∀k,k<w.heap.size->k≠b->(∀cs fz,w.heap[k]?≠some (.cells cs 5 fz))->w'.heap[k]? =w.heap[k]?
theorem Kq.refl(b:Nat)(w:World):Kq b w w:=⟨zG _,λ_ _ _ _=>rfl⟩
theorem Kq.trans{b:Nat}{w c a:World}(h:Kq b w c)(k:Kq b c a):Kq b w a:=⟨ZN h.size k.size,λj d hb f=>by
 have e:=h.keep j d hb f;exact(k.keep j (ZT d h.size) hb (by rw[e];exact f)).trans e⟩
theorem Kq.below{b:Nat}{w w':World}(h:Below w.heap.size w w'):Kq b w w':=⟨h.size,λj a _ _=>h.block j a⟩
theorem Kq.set(b o:Nat)(v:Value)(w:World):Kq b w (w.setCell ⟨b,o,none⟩ v):=⟨by simp[World.setCell],λj _ hb _=>Below.heap_setCell _ _ _ _ hb⟩
theorem Kq.grown{b B n:Nat}{v:Value}{xs:List Value}{w w':World}(h:w.grownBy w' v.ownBlock)(a:w.ownsRow B 5 1 v n xs):Kq b w w':=⟨h.size,λj c _ f=>h.block j c λe=>by
 rcases a.2 with ⟨rfl,_⟩|⟨g,cap,cur,rfl,_,d,_⟩
 .simp [Value.ownBlock] at e
 .simp only[Value.ownBlock,zN] at e;subst e;exact f _ _ d⟩
set_option maxHeartbeats 1000000 in
theorem O0(B b:Nat)(l:List UInt8)(w:World)(h:IsW B b l w):
  Calls Tryz.prog 251 #[.pointer (some ⟨b,0,none⟩)] w λe w'=>e=.returned (.tuple #[])/\Lib.BuilderAt 162 5 B b (.pointer (some ⟨b,0,none⟩)) (Lib.byteCells l) w'/\Below B w w'/\Kq b w w':=by
 obtain⟨j,d,c⟩:=Option.map_eq_some_iff.1 Nk;rcases h with h|h
 .have g:=h.cell0;have a:=h.shape;have f:=h.frozen0;have H:=Lib.hid h;clear h
  go_enter Tryz.func251,Tryz.ntmps251
  go_wp2_with fail
  rw[Lib.run_to_unsafe w ⟨b,0,none⟩ Tryz.underlying157 Tryz.underlying304 d (by rw[c];decide) a (Nat.zero_lt_succ 1)]
  simp only[Result.andThen];rw[Oper.upon_value]
  go_wp2_with fail
  rw[run_callFunc_extern Tryz.func257 (by kernel_rfl) (by kernel_rfl) (by kernel_rfl) (e:=Extern.AbiNoEscape.same) (by kernel_rfl)]
  rw[Lib.run_noEscape];simp only[Result.andThen];rw[Oper.upon_value]
  go_wp2_with fail
  rw[Lib.run_from_unsafe w ⟨b,0,none⟩ Tryz.underlying304 Tryz.underlying157 d a NR];simp only[Result.andThen];rw[Oper.upon_value]
  go_wp2_with fail
  go_end0
  exact⟨rfl,H.out.used _,(Below.refl B w).setCell (p:=⟨b,0,none⟩) H.out.1 _,Kq.set b 0 _ w⟩
 .have g:=h.cell0;have H:=Lib.hid h;clear h
  go_enter Tryz.func251,Tryz.ntmps251
  go_wp2_with fail
  rw[Lib.run_neq_ptr_same w _ Tryz.underlying157 d]
  go_wp2_with fail
  go_end0
  exact⟨rfl,H.out,Below.refl B _,Kq.refl _ _⟩
theorem MU:(Tryz.prog.info? 5).map (λi=>(i.zero,i.size,i.bytes))=some (some (.int .u8 0),1,1):=by kernel_rfl
theorem wo(l:List UInt8)(c:UInt8):Lib.byteCells (l++[c])=Lib.byteCells l++[.int .u8 c.toNat]:=by simp[Lib.byteCells]
set_option maxHeartbeats 2000000 in
theorem Lb(B b:Nat)(l:List UInt8)(c:UInt8)(w:World)(h:IsW B b l w)(hlen:l.length<=1000000000)(G:B<=w.heap.size):
  Calls Tryz.prog 229 #[.pointer (some ⟨b,0,none⟩),.int .u8 c.toNat] w λe w'=>e=.returned .nilIface/\IsW B b (l++[c]) w'/\Below B w w'/\Kq b w w':=by
 obtain⟨i0,F,y,x,t⟩:=info_parts MU;have n:=Lib.byteCells_length l;rw[show IsW B b (l++[c])=Lib.IsBuilder 162 5 B b (Lib.byteCells l++[.int .u8 c.toNat]) by unfold IsW;rw[wo]]
 have H:=Lib.hid h;clear h
 go_enter Tryz.func229,Tryz.ntmps229
 go_wp2_with fail
 refine(O0 B b l _ H.out).mono ?_;rintro e o ⟨rfl,⟨hB,v,i,f,A⟩,q,z⟩;have J:o.cell? ⟨b,0,none⟩=some (.pointer (some ⟨b,0,none⟩)):=by rw[Lib.cell_of_heap i];rfl
 have c1:o.cell? ⟨b,1,none⟩=some v:=by rw[Lib.cell_of_heap i];rfl
 have E:=q.size
 go_wp2_with (at_builtin;refine wpList_append_own _ rfl _ _ 158 rfl B 5 i0 (.int .u8 0) 1 1 Tryz.underlying158 F y x t rfl (by decide) _ _ _ rfl (f.alloc _) ⟨o.heap.size,0,none⟩ 1 1 [.int .u8 c.toNat] rfl rfl ?c1 ?c2 ?c3 ?c4 ?c5 ?_)
 case c1=>
  intro j u s
  match j,s with
  |0,s=>simp at s;subst s;simp[Addr.add]
 case c2=>intro u hu;simp at hu;subst hu;rfl
 case c3=>rw[n];unfold maxLen;omega
 case c4=>rw[n];omega
 case c5=>simp;omega
 intro v' r d a _
 have m:r.heap[b]? =some (.cells #[.pointer (some ⟨b,0,none⟩),v] 162 (0,0)):=by
  rw[a.block b (by have:=mf i;simp;omega) (λe=>A e.symm),Lib.alloc_old o _ b (mf i)]
  exact i
 have d0:r.cell? ⟨b,0,none⟩=some (.pointer (some ⟨b,0,none⟩)):=by rw[Lib.cell_of_heap m];rfl
 have d1:r.cell? ⟨b,1,none⟩=some v:=by rw[Lib.cell_of_heap m];rfl
 have f1:r.frozen? ⟨b,1,none⟩=false:=Lib.frozen_of_heap m 1
 obtain⟨D,cap,rfl⟩:∃D cap,v'=.slice D (l.length+1) cap:=by
  rcases d.2 with ⟨C,I⟩|⟨g,cap,cur,C,_⟩
  .omega
  .exact ⟨_,cap,C⟩
 go_wp2_with fail
 go_ret
 refine⟨rfl,.inr (Lib.BuilderAt.put (T:=162) (e:=5) hB m (bs':=Lib.byteCells l++[.int .u8 c.toNat]) (by rw[zC,n];simpa using d) (by decide)),?_,((z.trans (Kq.below ((Below.refl _ o).alloc (zG _) _))).trans (Kq.grown a (f.alloc _))).trans (Kq.set b 1 _ _)⟩
 exact((q.alloc (by omega) _).grown a (by simp;omega) (λk hk=>(f.lt k hk).1)).setCell (p:=⟨b,1,none⟩) hB _
set_option maxHeartbeats 2000000 in
theorem IY(B b:Nat)(l:List UInt8)(s:ByteArray)(w:World)(h:IsW B b l w)(hlen:l.length+s.size<=1000000000)(D:B<=w.heap.size):
  Calls Tryz.prog 230 #[.pointer (some ⟨b,0,none⟩),.string s] w λe w'=>e=.returned (.tuple #[.int .i64 s.size,.nilIface])/\IsW B b (l++s.data.toList) w'/\Below B w w'/\Kq b w w':=by
 obtain⟨i0,C,r,q,o⟩:=info_parts MU;have j:=Lib.byteCells_length l;rw[show IsW B b (l++s.data.toList)=Lib.IsBuilder 162 5 B b (Lib.byteCells l++Lib.strCells s) by unfold IsW;rw[Lib.byteCells_append,Lib.strCells_eq]]
 have H:=Lib.hid h;clear h
 go_enter Tryz.func230,Tryz.ntmps230
 go_wp2_with fail
 refine(O0 B b l _ H.out).mono ?_;rintro e y ⟨rfl,⟨hB,v,f,d,x⟩,m,u⟩;have E:y.cell? ⟨b,0,none⟩=some (.pointer (some ⟨b,0,none⟩)):=by rw[Lib.cell_of_heap f];rfl
 have c1:y.cell? ⟨b,1,none⟩=some v:=by rw[Lib.cell_of_heap f];rfl
 have A:=m.size
 go_wp2_with (at_builtin;refine Lib.wpList_append_own_string _ rfl _ _ 158 9 rfl B 5 i0 Tryz.underlying158 Tryz.underlying9 C r q o _ _ _ rfl d s rfl ?c3 ?c4 ?c5 ?_)
 case c3=>rw[j];unfold maxLen;omega
 case c4=>rw[j];omega
 case c5=>omega
 intro v' n c a _
 have i:n.heap[b]? =some (.cells #[.pointer (some ⟨b,0,none⟩),v] 162 (0,0)):=by
  rw[a.block b (mf f) (λe=>x e.symm)];exact f
 have d0:n.cell? ⟨b,0,none⟩=some (.pointer (some ⟨b,0,none⟩)):=by rw[Lib.cell_of_heap i];rfl
 have d1:n.cell? ⟨b,1,none⟩=some v:=by rw[Lib.cell_of_heap i];rfl
 have f1:n.frozen? ⟨b,1,none⟩=false:=Lib.frozen_of_heap i 1
 obtain⟨z,n',cap,rfl⟩:∃z n' cap,v'=.slice z n' cap:=by
  rcases c.2 with ⟨t,_⟩|⟨g,cap,cur,t,_⟩
  .exact ⟨_,_,_,t⟩
  .exact ⟨_,_,_,t⟩
 go_wp2_with fail
 go_ret2
 refine⟨rfl,.inr (Lib.BuilderAt.put (T:=162) (e:=5) hB i (bs':=Lib.byteCells l++Lib.strCells s) (by rw[zC,j,Lib.strCells_length];exact c) (by decide)),?_,(u.trans (Kq.grown a d)).trans (Kq.set b 1 _ _)⟩
 exact(m.grown a (by omega) (λk hk=>(d.lt k hk).1)).setCell (p:=⟨b,1,none⟩) hB _
theorem Oa:Tryz.prog.cellsOf 5=1:=by kernel_rfl
set_option maxHeartbeats 2000000 in
theorem Jp(B b:Nat)(l:List UInt8)(w:World)(h:IsW B b l w)(o:l≠[]):
  Calls Tryz.prog 98 #[.pointer (some ⟨b,0,none⟩)] w λe w'=>e=.returned (.string ⟨l.toArray⟩)/\Below B w w':=by
 obtain⟨p,hB,v,m,a,s⟩:∃p,Lib.BuilderAt 162 5 B b p (Lib.byteCells l) w:=by
  rcases h with h|h
  .exact ⟨_,h⟩
  .exact ⟨_,h⟩
 have d:l.length≠0:=by simpa using o
 rw[Lib.byteCells_length] at a;rcases a.2 with ⟨_,q⟩|⟨g,cap,cur,rfl,n,u,t,k,i,c⟩
 .exact absurd q d
 unfold maxLen at k;have f:w.drew.heap[g]? =some (.cells cur 5 (0,0)):=u
 have c1:w.drew.cell? ⟨b,1,none⟩=some (.slice (some ⟨g,0,none⟩) l.length cap):=by
  have:w.drew.heap[b]? =some (.cells #[p,.slice (some ⟨g,0,none⟩) l.length cap] 162 (0,0)):=m;rw[Lib.cell_of_heap this];rfl
 have z:(Builtin.unsafeSliceData_ #[158] 222 #[.slice (some ⟨g,0,none⟩) l.length cap]).run Tryz.prog w.drew=.ok (.pointer (some ⟨g,0,none⟩)) w.drew:=Lib.run_unsafeSliceData_row _ _ _ _ _ _ (by omega)
 have y:(Builtin.unsafeString_ #[222,3] 9 #[.pointer (some ⟨g,0,none⟩),.int .i64 l.length]).run Tryz.prog w.drew=.ok (.string ⟨l.toArray⟩) (w.drew.freeze ⟨g,0,none⟩ l.length):=
  Lib.run_unsafeString_row w.drew _ _ _ 5 Tryz.underlying222 Oa g cur.size (by simp[World.shape?,f]) l o (by omega) (by omega) λj x r=>a.cells (g:=g) rfl j (.int .u8 x.toNat) (by simp[Lib.byteCells,r])
 clear c i;have mixed:Tryz.prog.follows .mixedOrders=true:=by kernel_rfl
 go_enter Tryz.func98,Tryz.ntmps98
 go_wp2
 go_region_o
 all_goals (go_wp2;go_ret;exact⟨rfl,Lib.below_freeze (Below.drew (Below.refl B w)) (p:=⟨g,0,none⟩) n _⟩)
set_option maxHeartbeats 2000000 in
theorem Hz(B b:Nat)(p:Value)(w:World)(a:w.heap[b]? =some (.cells #[p,.slice none 0 0] 162 (0,0))):
  Calls Tryz.prog 98 #[.pointer (some ⟨b,0,none⟩)] w λe w'=>e=.returned (.string ⟨#[]⟩)/\Below B w w':=by
 have c1:w.drew.cell? ⟨b,1,none⟩=some (.slice none 0 0):=by
  have:w.drew.heap[b]? =some (.cells #[p,.slice none 0 0] 162 (0,0)):=a;rw[Lib.cell_of_heap this];rfl
 have d:(Builtin.unsafeSliceData_ #[158] 222 #[.slice none 0 0]).run Tryz.prog w.drew=.ok (.pointer none) w.drew:=rfl;have c:∀(W:World) (q:Option Addr),(Builtin.unsafeString_ #[222,3] 9 #[.pointer q,.int .i64 0]).run Tryz.prog W=.ok (.string .empty) W:=λW q=>Lib.run_unsafeString_none W _ _ _ q;have mixed:Tryz.prog.follows .mixedOrders=true:=by kernel_rfl
 go_enter Tryz.func98,Tryz.ntmps98
 go_wp2
 go_region_o
 all_goals (go_wp2;go_ret;exact⟨rfl,Below.drew (Below.refl B w)⟩)
theorem rY{B b:Nat}{l:List UInt8}{w w':World}(h:IsW B b l w)(hb:Below w.heap.size w w'):IsW B b l w':=by
 have one:∀p,Lib.BuilderAt 162 5 B b p (Lib.byteCells l) w->Lib.BuilderAt 162 5 B b p (Lib.byteCells l) w':=λp h=>by
  obtain⟨hB,v,d,a,c⟩:=h;exact⟨hB,v,(hb.block b (mf d)).trans d,a.kept (row:=none) ⟨hb.os,hb.tape,hb.output,hb.size,λk hk _=>hb.block k hk⟩ (Classical.em _),c⟩
 exact h.elim (λx=>.inl (one _ x)) (λx=>.inr (one _ x))
end Go.CK
