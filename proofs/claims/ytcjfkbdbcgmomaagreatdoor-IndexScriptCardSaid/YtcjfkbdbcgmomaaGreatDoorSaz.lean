/-
  Texts of this aV joined (wip/gen/bundle.py),those declarations only that are needed:IxW IxK IxL. By an AI agent.
-/
import Derived.Test.YtcjfkbdbcgmomaaGreatDoorSay
import Derived.Lib.RowBridge
import Derived.Lib.AppendIntMem
import Derived.Lib.LaidTab
import Derived.Deep.DrawnRows
set_option linter.unusedSimpArgs false
set_option linter.unusedVariables false
set_option maxRecDepth 100000
namespace Go.AM
open Go.CK Go.RowKit Go.Proofs Go.Sort
theorem H9(n id:Int)(b:Nat)(W:World)(hc:W.cell? ⟨b,0,none⟩=some (.int .i64 id)):
  Calls Tryz.prog 55 #[.int .i64 n,.pointer (some ⟨b,0,none⟩)] W λe w'=>e=.returned (.bool (decide (n=id)))/\w'=W:=by
 go_enter Tryz.func55,Tryz.ntmps55
 go_wp2_with fail
 go_ret
 exact⟨rfl,rfl⟩
theorem rS{enc:Int->Value}{w:World}{blk off n:Nat}{dk:Array Int}{os:Array Obj}{b:Nat}(hb:b<w.heap.size)(hne:b≠blk)(o:Nat):(sortWorld enc w blk off n dk os).cell? ⟨b,o,none⟩=w.cell? ⟨b,o,none⟩:=by
 refine bD ?_ o;simp only[sortWorld,grow,putRow,mapBlock,Sort.ahead];rw[Array.getElem?_append_left (by simpa using hb),Array.getElem?_modify,if_neg (λe=>hne e.symm)]
theorem KE{a us j:List Value}(h:us.length=a.length):qJ (a++j) 0 us=us++j:=by
 refine Zr λi=>?_;rw[lp _ _ _ _ (by simp;omega)]
 by_cases hi:i<us.length
 .rw [if_pos (by omega),zK hi];rfl
 .rw [if_neg (by omega),za (by omega),za (by omega),h]
theorem IL{bs:List Box}{b q:Nat}{x:TB}{l:List TR}{r:TR}{id:Int}(hb:bs[b]? =some (.tab x))(hx:ib x l)(hr:r∈l)(hq:bs[q]? =some (.cells [.int .i64 id]))(hn:r.ids.length<=1000000):
  AM.Sem Tryz.prog 54 [r.lit,.fn (.func 55) [] [.ptr q 0]] bs λv bs'=>∃r' x',v=r'.lit/\r'.key=r.key/\r'.ids=(r.ids.filter λn=>!decide (n=id))/\fS x' l r'/\bs'=bs.set b (.tab x'):=by
 intro E G a0 w args lo hrs hlen hav;have hbc:aa bs q=some [.int .i64 id]:=by simp[aa,hq,Box.cs?]
 obtain⟨u,hu1,_,hu2⟩:=hrs.si hbc 0 (by simp)
 obtain rfl:u=.int .i64 id:=RV.aA hu2;have hqlt:=hrs.blt hbc
 obtain rfl:args=[r.val,.func (.func 55) #[] #[.pointer (some ⟨G.σ q,0,none⟩)]]:=by
  match args,hlen with
  |[u,v],_=>
   have h0:=hav 0 (by simp) u rfl
   have h1:=hav 1 (by simp) v rfl
   simp only[ZS,Zj] at h0 h1;obtain⟨us,vs,rfl,e1,e2,_,hv⟩:=h1.nx;have hus:us=[]:=zL (by simpa using e1)
   obtain⟨p,rfl⟩:∃p,vs=[p]:=by
    match vs,e2 with
    |[p],_=>exact⟨p,rfl⟩
   subst hus;have h3:=hv 0 (by simp) p rfl
   simp only[ZS] at h3;rw[RV.mi h0,h3.eP.1];rfl
 obtain⟨hR1,hR2,hR3⟩:=hrs.qi hb (hx.rows r hr);have hne:G.σ q≠r.B:=hrs.clbox _ _ hR2 q _ hbc;have hcell:=nL hR1;have hcap:=hx.cap r hr
 have hH:Holds (Value.int .i64) w r.B 0 r.ids.toArray:=λj hj=>by
  have hj':j<r.ids.length:=by simpa using hj
  rw[ZJ];refine⟨?_,(hcell j).2⟩;rw[(hcell j).1,TR.ae,zK (by simpa using hj'),ZG,zA hj']
  simp[hj']
 refine(AnyE.slices_DeleteFunc Tryz.Hm (Value.int .i64) (λ_=>rfl) (λn=>decide (n=id)) 55 #[.pointer (some ⟨G.σ q,0,none⟩)] (enters_of Tryz.func55 (by kernel_rfl) rfl) 0 (λw=>Tryz.zeroValue3 w) r.B 0 r.cap r.ids.toArray w (λW n hW=>?_) (λn os dk y hdk=>?_) hH (by simp;omega) (by simp[TR.cap])).mono ?_
 .refine (H9 n id (G.σ q) W ((hW.cell (p:=⟨G.σ q,0,none⟩) hqlt).trans hu1)).mono ?_;rintro e w' ⟨rfl,rfl⟩;exact⟨rfl,0,rfl⟩
 .refine (H9 y id (G.σ q) _ ((rS hqlt hne 0).trans hu1)).mono ?_;rintro e w' ⟨rfl,rfl⟩;exact⟨rfl,0,rfl⟩
 rintro e w' ⟨rfl,qn,hw'⟩;obtain⟨zs,hzs⟩:∃zs,zs=(r.ids.filter λn=>!decide (n=id)):=⟨_,rfl⟩;have hzl:zs.length<=r.ids.length:=by rw[hzs];exact yB _ _
 rw[show (r.ids.toArray.toList.filter λn=>!decide (n=id))=zs from hzs.symm] at hw'|-;rw[Lib.putRow_eq_setCells (Value.int .i64) w r.B 0 r.ids.toArray _ qn hH (by simp;omega)] at hw'
 have s1:=cA (b:=r.B) ((zs++List.replicate (r.ids.toArray.size-zs.length) 0).map (Value.int .i64)) r.ae 0 (w.drewN qn) (by rw[World.heap_drewN];exact hR1)
 obtain⟨k1,k2,k3,k4,k5⟩:=aT (b:=r.B) ((zs++List.replicate (r.ids.toArray.size-zs.length) 0).map (Value.int .i64)) 0 (w.drewN qn);rw[<-hw'] at s1 k1 k2 k3 k4 k5;have hl:=KE (a:=r.ids.map (Value.int .i64)) (us:=(zs++List.replicate (r.ids.toArray.size-zs.length) 0).map (Value.int .i64)) (j:=r.junk) (by simp;omega)
 have hc2:(⟨r.key,zs,r.born,r.B,(List.replicate (r.ids.toArray.size-zs.length) 0).map (Value.int .i64)++r.junk,r.T⟩:TR).cap=r.cap:=by simp[TR.cap];omega
 obtain⟨bs',G',x',h1,h2,h3⟩:=D5 hrs hb hx hr ⟨r.key,zs,r.born,r.B,(List.replicate (r.ids.toArray.size-zs.length) 0).map (Value.int .i64)++r.junk,r.T⟩ rfl rfl hc2 (w':=w') (by
  rw[s1.1,TR.ae,hl,zw,zh];rfl) k1 k2 k3 k4 (λk hk=>k5 k hk)
 refine⟨_,_,bs',G',?_,⟨⟨r.key,zs,r.born,r.B,(List.replicate (r.ids.toArray.size-zs.length) 0).map (Value.int .i64)++r.junk,r.T⟩,x',rfl,rfl,rfl,h1,h2⟩,h3⟩;simp only[TR.val,hc2]
end Go.AM
namespace Go.CK
open Go.RowKit Go.Proofs
abbrev IsW(B b:Nat)(l:List UInt8)(w:World):Prop:=Lib.IsBuilder 162 5 B b (Lib.byteCells l) w
theorem KC:liesAt Tryz.prog Tryz.prog.depth 162 (2/Tryz.prog.cellsOf 162) 0 160 1=true:=by kernel_rfl
theorem Kb:(Tryz.prog.info? 160).map (·.size)=some 2:=by kernel_rfl
theorem me{w:World}{b:Nat}{o:Obj}(h:w.heap[b]? =some o):b<w.heap.size:=(zi.1 h).1
structure Kq(b:Nat)(w w':World):Prop where
 size:w.heap.size<=w'.heap.size
 keep:∀k,k<w.heap.size->k≠b->(∀cs fz,w.heap[k]?≠some (.cells cs 5 fz))->w'.heap[k]? =w.heap[k]?
theorem Kq.refl(b:Nat)(w:World):Kq b w w:=⟨zG _,λ_ _ _ _=>rfl⟩
theorem Kq.trans{b:Nat}{w w1 w2:World}(h:Kq b w w1)(k:Kq b w1 w2):Kq b w w2:=⟨ZP h.size k.size,λj hj hb hc=>by
 have e:=h.keep j hj hb hc;exact(k.keep j (ZV hj h.size) hb (by rw[e];exact hc)).trans e⟩
theorem Kq.below{b:Nat}{w w':World}(h:Below w.heap.size w w'):Kq b w w':=⟨h.size,λj hj _ _=>h.block j hj⟩
theorem Kq.set(b o:Nat)(v:Value)(w:World):Kq b w (w.setCell ⟨b,o,none⟩ v):=⟨by simp[World.setCell],λj _ hb _=>Below.heap_setCell _ _ _ _ hb⟩
theorem Kq.grown{b B n:Nat}{v:Value}{xs:List Value}{w w':World}(h:w.grownBy w' v.ownBlock)(ho:w.ownsRow B 5 1 v n xs):Kq b w w':=⟨h.size,λj hj _ hc=>h.block j hj λe=>by
 rcases ho.2 with ⟨rfl,_⟩|⟨g,cap,cur,rfl,_,hg,_⟩
 .simp [Value.ownBlock] at e
 .simp only[Value.ownBlock,zO] at e;subst e;exact hc _ _ hg⟩
set_option maxHeartbeats 1000000 in
theorem Lv(B b:Nat)(l:List UInt8)(w:World)(h:IsW B b l w):
  Calls Tryz.prog 251 #[.pointer (some ⟨b,0,none⟩)] w λe w'=>e=.returned (.tuple #[])/\Lib.BuilderAt 162 5 B b (.pointer (some ⟨b,0,none⟩)) (Lib.byteCells l) w'/\Below B w w'/\Kq b w w':=by
 obtain⟨j,hj,hjs⟩:=Option.map_eq_some_iff.1 Kb;rcases h with h|h
 .have h0:=h.cell0;have hsh:=h.shape;have hfz:=h.frozen0;have H:=Lib.hid h;clear h
  go_enter Tryz.func251,Tryz.ntmps251
  go_wp2_with fail
  rw[Lib.run_to_unsafe w ⟨b,0,none⟩ Tryz.underlying157 Tryz.underlying304 hj (by rw[hjs];decide) hsh (Nat.zero_lt_succ 1)]
  simp only[Result.andThen];rw[Oper.upon_value]
  go_wp2_with fail
  rw[run_callFunc_extern Tryz.func257 (by kernel_rfl) (by kernel_rfl) (by kernel_rfl) (e:=Extern.AbiNoEscape.same) (by kernel_rfl)]
  rw[Lib.run_noEscape];simp only[Result.andThen];rw[Oper.upon_value]
  go_wp2_with fail
  rw[Lib.run_from_unsafe w ⟨b,0,none⟩ Tryz.underlying304 Tryz.underlying157 hj hsh KC];simp only[Result.andThen];rw[Oper.upon_value]
  go_wp2_with fail
  go_end0
  exact⟨rfl,H.out.used _,(Below.refl B w).setCell (p:=⟨b,0,none⟩) H.out.1 _,Kq.set b 0 _ w⟩
 .have h0:=h.cell0;have H:=Lib.hid h;clear h
  go_enter Tryz.func251,Tryz.ntmps251
  go_wp2_with fail
  rw[Lib.run_neq_ptr_same w _ Tryz.underlying157 hj]
  go_wp2_with fail
  go_end0
  exact⟨rfl,H.out,Below.refl B _,Kq.refl _ _⟩
theorem JP:(Tryz.prog.info? 5).map (λi=>(i.zero,i.size,i.bytes))=some (some (.int .u8 0),1,1):=by kernel_rfl
theorem uO(l:List UInt8)(c:UInt8):Lib.byteCells (l++[c])=Lib.byteCells l++[.int .u8 c.toNat]:=by simp[Lib.byteCells]
set_option maxHeartbeats 2000000 in
theorem Ig(B b:Nat)(l:List UInt8)(c:UInt8)(w:World)(h:IsW B b l w)(hlen:l.length<=1000000000)(hBw:B<=w.heap.size):
  Calls Tryz.prog 229 #[.pointer (some ⟨b,0,none⟩),.int .u8 c.toNat] w λe w'=>e=.returned .nilIface/\IsW B b (l++[c]) w'/\Below B w w'/\Kq b w w':=by
 obtain⟨i0,hi,hz0,hz1,hz2⟩:=info_parts JP;have hbl:=Lib.byteCells_length l;rw[show IsW B b (l++[c])=Lib.IsBuilder 162 5 B b (Lib.byteCells l++[.int .u8 c.toNat]) by unfold IsW;rw[uO]]
 have H:=Lib.hid h;clear h
 go_enter Tryz.func229,Tryz.ntmps229
 go_wp2_with fail
 refine(Lv B b l _ H.out).mono ?_;rintro e w1 ⟨rfl,⟨hB,v,hbk,hown,hne⟩,hb1,hq1⟩;have c0:w1.cell? ⟨b,0,none⟩=some (.pointer (some ⟨b,0,none⟩)):=by rw[Lib.cell_of_heap hbk];rfl
 have c1:w1.cell? ⟨b,1,none⟩=some v:=by rw[Lib.cell_of_heap hbk];rfl
 have hs1:=hb1.size
 go_wp2_with (at_builtin;refine wpList_append_own _ rfl _ _ 158 rfl B 5 i0 (.int .u8 0) 1 1 Tryz.underlying158 hi hz0 hz1 hz2 rfl (by decide) _ _ _ rfl (hown.alloc _) ⟨w1.heap.size,0,none⟩ 1 1 [.int .u8 c.toNat] rfl rfl ?c1 ?c2 ?c3 ?c4 ?c5 ?_)
 case c1=>
  intro j u hj
  match j,hj with
  |0,hj=>simp at hj;subst hj;simp[Addr.add]
 case c2=>intro u hu;simp at hu;subst hu;rfl
 case c3=>rw[hbl];unfold maxLen;omega
 case c4=>rw[hbl];omega
 case c5=>simp;omega
 intro v' w2 hown' hgrow _
 have hb2:w2.heap[b]? =some (.cells #[.pointer (some ⟨b,0,none⟩),v] 162 (0,0)):=by
  rw[hgrow.block b (by have:=me hbk;simp;omega) (λe=>hne e.symm),Lib.alloc_old w1 _ b (me hbk)]
  exact hbk
 have d0:w2.cell? ⟨b,0,none⟩=some (.pointer (some ⟨b,0,none⟩)):=by rw[Lib.cell_of_heap hb2];rfl
 have d1:w2.cell? ⟨b,1,none⟩=some v:=by rw[Lib.cell_of_heap hb2];rfl
 have f1:w2.frozen? ⟨b,1,none⟩=false:=Lib.frozen_of_heap hb2 1
 obtain⟨ad,cap,rfl⟩:∃ad cap,v'=.slice ad (l.length+1) cap:=by
  rcases hown'.2 with ⟨hv,h0⟩|⟨g,cap,cur,hv,_⟩
  .omega
  .exact ⟨_,cap,hv⟩
 go_wp2_with fail
 go_ret
 refine⟨rfl,.inr (Lib.BuilderAt.put (T:=162) (e:=5) hB hb2 (bs':=Lib.byteCells l++[.int .u8 c.toNat]) (by rw[zC,hbl];simpa using hown') (by decide)),?_,((hq1.trans (Kq.below ((Below.refl _ w1).alloc (zG _) _))).trans (Kq.grown hgrow (hown.alloc _))).trans (Kq.set b 1 _ _)⟩
 exact((hb1.alloc (by omega) _).grown hgrow (by simp;omega) (λk hk=>(hown.lt k hk).1)).setCell (p:=⟨b,1,none⟩) hB _
set_option maxHeartbeats 2000000 in
theorem Ge(B b:Nat)(l:List UInt8)(s:ByteArray)(w:World)(h:IsW B b l w)(hlen:l.length+s.size<=1000000000)(hBw:B<=w.heap.size):
  Calls Tryz.prog 230 #[.pointer (some ⟨b,0,none⟩),.string s] w λe w'=>e=.returned (.tuple #[.int .i64 s.size,.nilIface])/\IsW B b (l++s.data.toList) w'/\Below B w w'/\Kq b w w':=by
 obtain⟨i0,hi,hz0,hz1,hz2⟩:=info_parts JP;have hbl:=Lib.byteCells_length l;rw[show IsW B b (l++s.data.toList)=Lib.IsBuilder 162 5 B b (Lib.byteCells l++Lib.strCells s) by unfold IsW;rw[Lib.byteCells_append,Lib.strCells_eq]]
 have H:=Lib.hid h;clear h
 go_enter Tryz.func230,Tryz.ntmps230
 go_wp2_with fail
 refine(Lv B b l _ H.out).mono ?_;rintro e w1 ⟨rfl,⟨hB,v,hbk,hown,hne⟩,hb1,hq1⟩;have c0:w1.cell? ⟨b,0,none⟩=some (.pointer (some ⟨b,0,none⟩)):=by rw[Lib.cell_of_heap hbk];rfl
 have c1:w1.cell? ⟨b,1,none⟩=some v:=by rw[Lib.cell_of_heap hbk];rfl
 have hs1:=hb1.size
 go_wp2_with (at_builtin;refine Lib.wpList_append_own_string _ rfl _ _ 158 9 rfl B 5 i0 Tryz.underlying158 Tryz.underlying9 hi hz0 hz1 hz2 _ _ _ rfl hown s rfl ?c3 ?c4 ?c5 ?_)
 case c3=>rw[hbl];unfold maxLen;omega
 case c4=>rw[hbl];omega
 case c5=>omega
 intro v' w2 hown' hgrow _
 have hb2:w2.heap[b]? =some (.cells #[.pointer (some ⟨b,0,none⟩),v] 162 (0,0)):=by
  rw[hgrow.block b (me hbk) (λe=>hne e.symm)];exact hbk
 have d0:w2.cell? ⟨b,0,none⟩=some (.pointer (some ⟨b,0,none⟩)):=by rw[Lib.cell_of_heap hb2];rfl
 have d1:w2.cell? ⟨b,1,none⟩=some v:=by rw[Lib.cell_of_heap hb2];rfl
 have f1:w2.frozen? ⟨b,1,none⟩=false:=Lib.frozen_of_heap hb2 1
 obtain⟨ao,n',cap,rfl⟩:∃ao n' cap,v'=.slice ao n' cap:=by
  rcases hown'.2 with ⟨hv,_⟩|⟨g,cap,cur,hv,_⟩
  .exact ⟨_,_,_,hv⟩
  .exact ⟨_,_,_,hv⟩
 go_wp2_with fail
 go_ret2
 refine⟨rfl,.inr (Lib.BuilderAt.put (T:=162) (e:=5) hB hb2 (bs':=Lib.byteCells l++Lib.strCells s) (by rw[zC,hbl,Lib.strCells_length];exact hown') (by decide)),?_,(hq1.trans (Kq.grown hgrow hown)).trans (Kq.set b 1 _ _)⟩
 exact(hb1.grown hgrow (by omega) (λk hk=>(hown.lt k hk).1)).setCell (p:=⟨b,1,none⟩) hB _
theorem KR:Tryz.prog.cellsOf 5=1:=by kernel_rfl
set_option maxHeartbeats 2000000 in
theorem GC(B b:Nat)(l:List UInt8)(w:World)(h:IsW B b l w)(h0:l≠[]):
  Calls Tryz.prog 98 #[.pointer (some ⟨b,0,none⟩)] w λe w'=>e=.returned (.string ⟨l.toArray⟩)/\Below B w w':=by
 obtain⟨p,hB,v,hbk,hown,hne⟩:∃p,Lib.BuilderAt 162 5 B b p (Lib.byteCells l) w:=by
  rcases h with h|h
  .exact ⟨_,h⟩
  .exact ⟨_,h⟩
 have hl0:l.length≠0:=by simpa using h0
 rw[Lib.byteCells_length] at hown;rcases hown.2 with ⟨_,hz⟩|⟨g,cap,cur,rfl,hbg,hg,hnc,hcm,hcs,htake⟩
 .exact absurd hz hl0
 unfold maxLen at hcm;have hg':w.drew.heap[g]? =some (.cells cur 5 (0,0)):=hg
 have c1:w.drew.cell? ⟨b,1,none⟩=some (.slice (some ⟨g,0,none⟩) l.length cap):=by
  have:w.drew.heap[b]? =some (.cells #[p,.slice (some ⟨g,0,none⟩) l.length cap] 162 (0,0)):=hbk;rw[Lib.cell_of_heap this];rfl
 have hSD:(Builtin.unsafeSliceData_ #[158] 222 #[.slice (some ⟨g,0,none⟩) l.length cap]).run Tryz.prog w.drew=.ok (.pointer (some ⟨g,0,none⟩)) w.drew:=Lib.run_unsafeSliceData_row _ _ _ _ _ _ (by omega)
 have hUS:(Builtin.unsafeString_ #[222,3] 9 #[.pointer (some ⟨g,0,none⟩),.int .i64 l.length]).run Tryz.prog w.drew=.ok (.string ⟨l.toArray⟩) (w.drew.freeze ⟨g,0,none⟩ l.length):=
  Lib.run_unsafeString_row w.drew _ _ _ 5 Tryz.underlying222 KR g cur.size (by simp[World.shape?,hg']) l h0 (by omega) (by omega) λj x hx=>hown.cells (g:=g) rfl j (.int .u8 x.toNat) (by simp[Lib.byteCells,hx])
 clear htake hcs;have mixed:Tryz.prog.follows .mixedOrders=true:=by kernel_rfl
 go_enter Tryz.func98,Tryz.ntmps98
 go_wp2
 go_region_o
 all_goals (go_wp2;go_ret;exact⟨rfl,Lib.below_freeze (Below.drew (Below.refl B w)) (p:=⟨g,0,none⟩) hbg _⟩)
set_option maxHeartbeats 2000000 in
theorem Fb(B b:Nat)(p:Value)(w:World)(hbk:w.heap[b]? =some (.cells #[p,.slice none 0 0] 162 (0,0))):
  Calls Tryz.prog 98 #[.pointer (some ⟨b,0,none⟩)] w λe w'=>e=.returned (.string ⟨#[]⟩)/\Below B w w':=by
 have c1:w.drew.cell? ⟨b,1,none⟩=some (.slice none 0 0):=by
  have:w.drew.heap[b]? =some (.cells #[p,.slice none 0 0] 162 (0,0)):=hbk;rw[Lib.cell_of_heap this];rfl
 have hSD:(Builtin.unsafeSliceData_ #[158] 222 #[.slice none 0 0]).run Tryz.prog w.drew=.ok (.pointer none) w.drew:=rfl;have hUS:∀(W:World) (q:Option Addr),(Builtin.unsafeString_ #[222,3] 9 #[.pointer q,.int .i64 0]).run Tryz.prog W=.ok (.string .empty) W:=λW q=>Lib.run_unsafeString_none W _ _ _ q;have mixed:Tryz.prog.follows .mixedOrders=true:=by kernel_rfl
 go_enter Tryz.func98,Tryz.ntmps98
 go_wp2
 go_region_o
 all_goals (go_wp2;go_ret;exact⟨rfl,Below.drew (Below.refl B w)⟩)
theorem qP{B b:Nat}{l:List UInt8}{w w':World}(h:IsW B b l w)(hb:Below w.heap.size w w'):IsW B b l w':=by
 have one:∀p,Lib.BuilderAt 162 5 B b p (Lib.byteCells l) w->Lib.BuilderAt 162 5 B b p (Lib.byteCells l) w':=λp h=>by
  obtain⟨hB,v,hv,hown,hne⟩:=h;exact⟨hB,v,(hb.block b (me hv)).trans hv,hown.kept (row:=none) ⟨hb.os,hb.tape,hb.output,hb.size,λk hk _=>hb.block k hk⟩ (Classical.em _),hne⟩
 exact h.elim (λx=>.inl (one _ x)) (λx=>.inr (one _ x))
end Go.CK
namespace Go.CK
open Go.RowKit Go.Proofs
def Tb(w:World):Prop:=∃T fz,w.heap[AM.KB]? =some (.cells AM.KV.toArray T fz)
theorem Tb.lt{w:World}(h:Tb w):AM.KB<w.heap.size:=by
 obtain⟨T,fz,h⟩:=h;exact me h
theorem Tb.below{B:Nat}{w w':World}(h:Tb w)(hB:AM.KB<B)(hb:Below B w w'):Tb w':=by
 obtain⟨T,fz,h⟩:=h;exact⟨T,fz,(hb.block _ hB).trans h⟩
def IB(n:Int)(w:World):Prop:=Calls Tryz.prog 231 #[.int .i64 n] w λe w'=>e=.returned (.string ⟨(Lib.itoa n).toArray⟩)/\Below w.heap.size w w'
theorem Ji{n:Int}(h0:-9223372036854775808<=n)(h1:n<=9223372036854775807){w:World}(ht:Tb w):IB n w:=by
 have hT : Lib.TabIs Tryz.prog w "internal/strconv.uint64pow10" .u64 Lib.pow10Tab := by
  obtain ⟨T, fz, h⟩ := ht; unfold Lib.TabIs World.var?; rw [show Tryz.prog.globalNamed "internal/strconv.uint64pow10" = some AM.KB by kernel_rfl]
  simp only[ZH,h];rfl
 refine(Any.strconv_Itoa Tryz.Hj n h0 h1 w hT).mono ?_;rintro e w' ⟨rfl,k,os,rfl⟩;exact⟨rfl,Lib.below_grow _ w (zG _) k os⟩
theorem size_data(s:ByteArray):s.size=s.data.toList.length:=by cases s;rfl
theorem kg:∀(k u:Nat),u<10^(k+1)->(Lib.decDigits u).length<=k+1
 |0,u,h=>by rw[Lib.decDigits,dif_pos (by simpa using h)];simp
 |k+1,u,h=>by
  rw[Lib.decDigits];split
  .simp
  .have:=kg k (u/10) (by rw[Nat.pow_succ] at h;omega)
   simp;omega
theorem Bn{n:Int}(h0:-9223372036854775808<=n)(h1:n<=9223372036854775807):(Lib.itoa n).length<=30:=by
 unfold Lib.itoa;split
 .have:=kg 19 n.natAbs (by omega)
  simp;omega
 .have:=kg 19 n.toNat (by omega)
  omega
def di(tag:UInt8)(n:Int):List UInt8:=tag::Lib.itoa n
set_option maxHeartbeats 2000000 in
theorem lf(B b:Nat)(l:List UInt8)(tag:UInt8)(n:Int)(w:World)(h:IsW B b l w)(ht:Tb w)(hKB:AM.KB<B)(h0:-9223372036854775808<=n)(h1:n<=9223372036854775807)(hlen:l.length<=100000000)(hBw:B<=w.heap.size):
  Calls Tryz.prog 198 #[.pointer (some ⟨b,0,none⟩),.int .u8 tag.toNat,.int .i64 n] w λe w'=>e=.returned (.tuple #[])/\IsW B b (l++di tag n) w'/\Below B w w'/\Kq b w w':=by
 have hil:=Bn h0 h1;have mixed:Tryz.prog.follows .mixedOrders=true:=by kernel_rfl
 have hw:l++di tag n=l++[tag]++(⟨(Lib.itoa n).toArray⟩:ByteArray).data.toList:=by simp[di]
 rw[hw];have Hw:=Lib.hid hw;clear hw;have H:=Lib.hid h;clear h;have HT:=Lib.hid ht;clear ht
 go_enter Tryz.func198,Tryz.ntmps198
 go_wp2_with fail
 refine(Ig B b l tag w H.out (by omega) hBw).mono ?_
 rintro e w1 ⟨rfl,h1w,hb1,hq1⟩;have hi:∀w',Below w1.heap.size w1 w'->IsW B b (l++[tag]) w'/\IB n w'/\Below B w w'/\B<=w'.heap.size:=λw' hb=>⟨qP h1w hb,Ji h0 h1 (HT.out.below hKB (hb1.trans (hb.mono (by have:=hb1.size;omega)))),hb1.trans (hb.mono (by have:=hb1.size;omega)),by have:=hb1.size;have:=hb.size;omega⟩
 have HI:=Lib.hid hi;clear hi;have hn:∀w' w'',Below w1.heap.size w1 w'->Below w'.heap.size w' w''->Below w1.heap.size w1 w'':=λw' w'' ha hb=>ha.trans (hb.mono ha.size);have hm:∀w' w'',Below w1.heap.size w1 w'->Below B w' w''->Below B w w'':=λw' w'' ha hb=>(hb1.trans (ha.mono (by have:=hb1.size;omega))).trans hb
 have hk:∀w' w'',Below w1.heap.size w1 w'->Kq b w' w''->Kq b w w'':=λw' w'' ha hb=>(hq1.trans (Kq.below ha)).trans hb;have HK:=Lib.hid hk;clear hk;have HN:=Lib.hid hn;clear hn;have HM:=Lib.hid hm;clear hm;have HB:=Lib.hid hb1;clear hb1;clear h1w hq1
 go_wp2_with fail
 go_region_held3 (λw'=>Below B w w') (first|assumption|exact HM.out _ _ (by repeat (first|assumption|exact Below.refl _ _|refine Below.drew ?_)) (Below.refl _ _)) (first|(go_at_call 231;refine((HI.out _ (by repeat (first|assumption|exact Below.refl _ _|refine Below.drew ?_))).2.1).mono ?_;rintro e w2 ⟨rfl,hb2⟩;have hb2:=HN.out _ _ (by repeat (first|assumption|exact Below.refl _ _|refine Below.drew ?_)) hb2)|(go_at_call 230;refine(Ge B b _ _ _ (HI.out _ (by repeat (first|assumption|exact Below.refl _ _|refine Below.drew ?_))).1 (by simp[ByteArray.size];omega) (HI.out _ (by repeat (first|assumption|exact Below.refl _ _|refine Below.drew ?_))).2.2.2).mono ?_;rintro e w3 ⟨rfl,h3,hb3,hq3⟩;have hq3:=HK.out _ _ (by repeat (first|assumption|exact Below.refl _ _|refine Below.drew ?_)) hq3;have hb3:=HM.out _ _ (by repeat (first|assumption|exact Below.refl _ _|refine Below.drew ?_)) hb3))
 all_goals (go_wp2_with fail;go_end0;exact⟨rfl,h3,hb3,hq3⟩)
def dE(s:ByteArray):List UInt8:=di 115 s.size++(58::s.data.toList)
theorem EW(s:ByteArray):s.size<=(dE s).length:=by simp only[dE,zC,zY,<-size_data];omega
set_option maxHeartbeats 2000000 in
theorem Gf(B b:Nat)(l:List UInt8)(s:ByteArray)(w:World)(h:IsW B b l w)(ht:Tb w)(hKB:AM.KB<B)(hlen:l.length+(dE s).length<=100000000)(hBw:B<=w.heap.size):
  Calls Tryz.prog 199 #[.pointer (some ⟨b,0,none⟩),.string s] w λe w'=>e=.returned (.tuple #[])/\IsW B b (l++dE s) w'/\Below B w w'/\Kq b w w':=by
 have hsl:=EW s;have hw:l++dE s=l++di 115 s.size++[58]++s.data.toList:=by simp[dE]
 have hl2:(l++di 115 s.size).length+1+s.size<=100000000:=by
  simp only[dE,zC,zY,<-size_data] at hlen|-;omega
 rw[hw];have Hw:=Lib.hid hw;clear hw;have Hl:=Lib.hid hl2;clear hl2;have H:=Lib.hid h;clear h;have HT:=Lib.hid ht;clear ht
 go_enter Tryz.func199,Tryz.ntmps199
 go_wp2_with fail
 refine(lf B b l 115 s.size w H.out HT.out hKB (by omega) (by omega) (by omega) hBw).mono ?_
 rintro e w1 ⟨rfl,h1,hb1,hq1⟩;have hs1:=hb1.size
 go_wp2_with fail
 refine(Ig B b _ 58 w1 h1 (by have:=Hl.out;omega) (by omega)).mono ?_
 rintro e w2 ⟨rfl,h2,hb2,hq2⟩;have hs2:=hb2.size
 go_wp2_with fail
 refine(Ge B b _ s w2 h2 (by have:=Hl.out;simp only[zC,zY,ZR] at this|-;omega) (by omega)).mono ?_
 rintro e w3 ⟨rfl,h3,hb3,hq3⟩
 go_wp2_with fail
 go_end0
 exact⟨rfl,h3,(hb1.trans hb2).trans hb3,(hq1.trans hq2).trans hq3⟩
mutual
def bT:Tm->List UInt8
 |.mk k n s l=>if k=0 then di 105 n else if k=1 then di 118 n else if k=2 then di 102 l.length++dE s++bh l else di 107 k++di 110 n++dE s
def bh:List Tm->List UInt8
 |[]=>[]
 |t::l=>bT t++bh l
end
mutual
def Tm.io:Tm->Prop
 |.mk k n _ l=>cz k/\cz n/\Tm.ios l
def Tm.ios:List Tm->Prop
 |[]=>True
 |t::l=>Tm.io t/\Tm.ios l
end
theorem Tm.jr:∀{l:List Tm},Tm.ios l↔∀t∈l,t.io
 |[]=>by simp[Tm.ios]
 |a::l=>by simp only[Tm.ios,Tm.jr (l:=l),zI,forall_eq_or_imp]
theorem sL:∀(l m:List Tm),bh (l++m)=bh l++bh m
 |[],m=>rfl
 |t::l,m=>by rw[zf,bh,bh,sL l m,zh]
open Go.AM in
theorem An(t:Tm):(Tm.av t).cells=[.int .i64 t.kind,.int .i64 t.num,.str t.name,.sl .no (t.args.map Tm.av)]:=by
 cases t;simp[Tm.av,AV.cells,Tm.kind,Tm.num,Tm.name,Tm.args,Tm.sE]
open Go.AM in
theorem xp{M:Hp}{l:List Tm}{v:Value}(h:FV M (slA Tm.av l) v):∃a k,v=.slice a l.length k/\∀i (hi:i<l.length),∃B off sv,a=some ⟨B,off,none⟩/\M B (off+i*4)=some (.int .i64 l[i].kind)/\M B (off+i*4+1)=some (.int .i64 l[i].num)/\M B (off+i*4+2)=some (.string l[i].name)/\M B (off+i*4+3)=some sv/\FV M (slA Tm.av l[i].args) sv/\l[i].name.size<=lim:=by
 obtain⟨a,k,B,off,sz,rfl,_,_,_,_,ha,he⟩:=h.cq;rw[zF];refine⟨a,k,rfl,λi hi=>?_⟩;have hne:l.map Tm.av≠[]:=λe=>by rw[List.map_eq_nil_iff] at e;subst e;cases hi
 obtain⟨e1,e2⟩:=he i (by simpa using hi)
 rw[ZE] at e1 e2;rw[An] at e1;simp only[zY,ZR] at e1;subst e1;have hc:(l[i].av).cells=_:=An l[i]
 have g:∀j (hj:j<4) x,[AV.int .i64 l[i].kind,.int .i64 l[i].num,.str l[i].name,.sl .no (l[i].args.map Tm.av)][j]? =some x->∃u,M B (off+i*4+j)=some u/\FV M x u:=λj hj x hx=>by
  obtain⟨u,h1,_,h2⟩:=e2 j (by rw[hc];exact hj)
  refine⟨u,h1,?_⟩
  have:(l[i].av).cells[j]'(by rw[hc];exact hj)=x:=by
   have:(l[i].av).cells[j]? =some x:=by rw[hc];exact hx
   exact(zB.1 this).2
  rw[<-this];exact h2
 obtain⟨u0,g0,f0⟩:=g 0 (by omega) _ rfl
 obtain⟨u1,g1,f1⟩:=g 1 (by omega) _ rfl
 obtain⟨u2,g2,f2⟩:=g 2 (by omega) _ rfl
 obtain⟨u3,g3,f3⟩:=g 3 (by omega) _ rfl
 cases f0;cases f1
 cases f2 with
 |str _ hs=>exact⟨B,off,u3,ha hne,by simpa using g0,g1,g2,g3,f3,hs⟩
theorem E4{l:List Tm}{j:Nat}(h:j<l.length):bh (l.take (j+1))=bh (l.take j)++bT l[j]:=by
 rw[List.take_succ_eq_append_getElem h,sL];simp[bh]
theorem IH(l:List Tm)(j:Nat):(bh (l.take j)).length<=(bh l).length:=by
 have:=sL (l.take j) (l.drop j);rw[List.take_append_drop] at this;rw[this,zC];omega
open Go.AM in
def Iy(W:World)(t:Tm):Prop:=∀sv,FV (Hp.of W) (slA Tm.av t.args) sv->∀(b:Nat) (l0:List UInt8) (w:World),IsW W.heap.size b l0 w->Below W.heap.size W w->l0.length+(bT t).length<=100000000->
 Calls Tryz.prog 151 #[.pointer (some ⟨b,0,none⟩),.agg #[.int .i64 t.kind,.int .i64 t.num,.string t.name,sv]] w λe w'=>e=.returned (.tuple #[])/\IsW W.heap.size b (l0++bT t) w'/\Below W.heap.size w w'/\Kq b w w'
open Go.AM in
set_option maxHeartbeats 2000000 in
theorem D3{W:World}{l:List Tm}(hl:∀t∈l,Iy W t){sv:Value}(hv:FV (Hp.of W) (slA Tm.av l) sv)(b:Nat)(l0:List UInt8)(w:World)(h:IsW W.heap.size b l0 w)(hb:Below W.heap.size W w)(hlen:l0.length+(bh l).length<=100000000):
  Calls Tryz.prog 97 #[.pointer (some ⟨b,0,none⟩),sv] w λe w'=>e=.returned (.tuple #[])/\IsW W.heap.size b (l0++bh l) w'/\Below W.heap.size w w'/\Kq b w w':=by
 obtain⟨a,k,rfl,hat⟩:=xp hv
 have hll:l.length<=lim:=by
  obtain⟨_,_,_,_,_,_,_,_,h1,_⟩:=hv.cq;simpa using h1
 ((try unfold glim at hll);(try unfold lim at hll));have HA:=Lib.hid hat;clear hat;have H:=Lib.hid h;clear h;have HB:=Lib.hid hb;clear hb;have HL:=Lib.hid hl;clear hl;have Hlen:=Lib.hid hlen;clear hlen;clear hv
 go_enter Tryz.func97,Tryz.ntmps97
 go_wp2_with fail
 go_loopw [8] (λi wr=>∃j:Nat,j<=l.length/\i=.int .i64 j/\IsW W.heap.size b (l0++bh (l.take j)) wr/\Below W.heap.size w wr/\Kq b w wr) (λi _=>l.length-(RowKit.intOf i).toNat)
 case atStart=>exact⟨0,by omega,rfl,by simpa[bh] using H.out,Below.refl _ _,Kq.refl _ _⟩
 case round=>
  obtain⟨j,hj,rfl,h1,hx,hq⟩:=hrel;have H1:=Lib.hid h1;clear h1
  by_cases hlt:j<l.length
  .obtain ⟨B,off,sv,rfl,g0,g1,g2,g3,hsv,hns⟩:=HA.out j hlt;have hBW:B<W.heap.size:=Hp.lt (Hp.le_refl _) g0;obtain⟨a2,k2,rfl,_⟩:=xp hsv;have cell:∀o v,Hp.of W B o=some v->wr.cell? ⟨B,o,none⟩=some v:=λo v hv=>((HB.out.trans hx).cell (p:=⟨B,o,none⟩) hBW).trans hv;have c0:=cell _ _ g0;have c1:=cell _ _ g1;have c2:=cell _ _ g2;have c3:=cell _ _ g3;clear cell g0 g1 g2 g3;have Hsv:=Lib.hid hsv;clear hsv;have htk:=E4 hlt;have hle:=IH l (j+1);have Htk:=Lib.hid htk;clear htk;have Hle:=Lib.hid hle;clear hle;have hwz:=hx.size;have hWz:=HB.out.size
   go_wp2_with fail
   refine(HL.out l[j] (zd hlt) _ Hsv.out b _ _ (qP H1.out ((Below.refl _ wr).alloc (zG _) _)) ((HB.out.trans hx).alloc (by omega) _) (by have h1:=Hle.out;have h2:=Hlen.out;rw[Htk.out] at h1;simp only[zC] at h1|-;omega)).mono ?_
   rintro e w2 ⟨rfl,h2,hx2,hq2⟩
   go_wp2_with fail
   go_roundw
   case rel=>exact⟨j+1,by omega,by go_num,by rw[Htk.out,<-zh];exact h2,(hx.alloc (by omega) _).trans hx2,(hq.trans (Kq.below ((Below.refl _ wr).alloc (zG _) _))).trans hq2⟩
   case measure=>simp[RowKit.intOf];omega
  .have he:l.take j=l:=zm (by omega)
   have Hd:=Lib.hid he;clear he
   go_wp2_with fail
   go_end0
   exact⟨rfl,by have:=H1.out;rw[Hd.out] at this;exact this,hx,hq⟩
open Go.AM in
set_option maxHeartbeats 4000000 in
theorem J4{W:World}(hT:Tb W)(t:Tm)(hio:t.io):Iy W t:=by
 induction t using Tm.bu with
 |h k n s l ih=>
  intro sv hv b l0 w h hb hlen;simp only[Tm.args,Tm.kind,Tm.num,Tm.name] at hv|-;rw[Tm.io] at hio;obtain⟨hk,hn,hio⟩:=hio;have hl:∀t∈l,Iy W t:=λt ht=>ih t ht (Tm.jr.1 hio t ht);obtain⟨a,kk,rfl,_⟩:=xp hv
  have hll:l.length<=lim:=by
   obtain⟨_,_,_,_,_,_,_,_,h1,_⟩:=hv.cq;simpa using h1
  ((try unfold glim at hll);(try unfold lim at hll));have hWz:=hb.size;have hw1:=qP h ((Below.refl _ w).alloc (zG _) (.cells #[.int .i64 k,.int .i64 n,.string s,.slice a l.length kk] 81));have hx1:Below W.heap.size w (w.alloc (.cells #[.int .i64 k,.int .i64 n,.string s,.slice a l.length kk] 81)):=(Below.refl _ w).alloc hWz _;have hq1:Kq b w (w.alloc (.cells #[.int .i64 k,.int .i64 n,.string s,.slice a l.length kk] 81)):=Kq.below ((Below.refl _ w).alloc (zG _) _);obtain⟨w1,hw⟩:∃w1,w1=w.alloc (.cells #[.int .i64 k,.int .i64 n,.string s,.slice a l.length kk] 81):=⟨_,rfl⟩;rw[<-hw] at hw1 hx1 hq1;have hbx:w1.heap[w.heap.size]? =some (.cells #[.int .i64 k,.int .i64 n,.string s,.slice a l.length kk] 81 (0,0)):=by rw[hw];exact World.alloc_heap_new w _
  have hblt:b<w.heap.size:=by
   rcases h with h|h<;>(obtain⟨_,v,hv,_⟩:=h;exact me hv)
  have hkeep:∀w',Kq b w1 w'->w'.cell? ⟨w.heap.size,0,none⟩=some (.int .i64 k)/\w'.cell? ⟨w.heap.size,1,none⟩=some (.int .i64 n)/\w'.cell? ⟨w.heap.size,2,none⟩=some (.string s)/\w'.cell? ⟨w.heap.size,3,none⟩=some (.slice a l.length kk):=λw' hq=>by
   have:=(hq.keep w.heap.size (me hbx) (by omega) (λcs fz e=>by rw[hbx] at e;cases e)).trans hbx
   simp[World.cell?,this]
  have hsz:w1.heap.size=w.heap.size+1:=by rw[hw];simp
  have hTb:∀w',Below W.heap.size w w'->Tb w':=λw' hx=>hT.below hT.lt (hb.trans hx);have HK:=Lib.hid hkeep;clear hkeep;have HT:=Lib.hid hTb;clear hTb;have HL:=Lib.hid hl;clear hl;have HV:=Lib.hid hv;clear hv;have HB:=Lib.hid hb;clear hb;have H1:=Lib.hid hw1;clear hw1;obtain⟨c0,c1,c2,c3⟩:=HK.out w1 (Kq.refl _ _);clear h ih hio;have hW1:=hx1.size
  by_cases hk0:k=0
  .subst hk0;have et:bT (.mk 0 n s l)=di 105 n:=by simp[bT]
   rw[et] at hlen|-;have Hl:=Lib.hid hlen;clear hlen;have Het:=Lib.hid et;clear et
   go_enter Tryz.func151,Tryz.ntmps151
   go_wp2_with fail
   rw[<-hw];refine(lf W.heap.size b l0 105 n w1 H1.out (HT.out _ hx1) hT.lt hn.1 hn.2 (by have:=Hl.out;omega) (by omega)).mono ?_
   rintro e w2 ⟨rfl,h2,hx2,hq2⟩
   go_wp2_with fail
   go_end0
   exact⟨rfl,h2,hx1.trans hx2,hq1.trans hq2⟩
  .by_cases hk1:k=1
   .subst hk1;have et:bT (.mk 1 n s l)=di 118 n:=by simp[bT]
    rw[et] at hlen|-;have Hl:=Lib.hid hlen;clear hlen;have Het:=Lib.hid et;clear et
    go_enter Tryz.func151,Tryz.ntmps151
    go_wp2_with fail
    rw[<-hw];refine(lf W.heap.size b l0 118 n w1 H1.out (HT.out _ hx1) hT.lt hn.1 hn.2 (by have:=Hl.out;omega) (by omega)).mono ?_
    rintro e w2 ⟨rfl,h2,hx2,hq2⟩
    go_wp2_with fail
    go_end0
    exact⟨rfl,h2,hx1.trans hx2,hq1.trans hq2⟩
   .by_cases hk2:k=2
    .subst hk2;have et:bT (.mk 2 n s l)=di 102 l.length++dE s++bh l:=by simp[bT]
     rw[et] at hlen|-;have e3:l0++(di 102 l.length++dE s++bh l)=l0++di 102 l.length++dE s++bh l:=by simp
     rw[e3];simp only[zC] at hlen;have Hl:=Lib.hid hlen;clear hlen;have Het:=Lib.hid et;clear et;have He3:=Lib.hid e3;clear e3
     go_enter Tryz.func151,Tryz.ntmps151
     go_wp2_with fail
     rw[<-hw];refine(lf W.heap.size b l0 102 l.length w1 H1.out (HT.out _ hx1) hT.lt (by omega) (by omega) (by have:=Hl.out;omega) (by omega)).mono ?_
     rintro e w2 ⟨rfl,h2,hx2,hq2⟩;clear c0 c1 c2 c3;obtain⟨c0,c1,c2,c3⟩:=HK.out w2 hq2;have hz2:=hx2.size;have hx2:=hx1.trans hx2
     go_wp2_with fail
     refine(Gf W.heap.size b _ s w2 h2 (HT.out _ hx2) hT.lt (by have:=Hl.out;simp only[zC];omega) (by omega)).mono ?_
     rintro e w3 ⟨rfl,h3,hx3,hq3⟩;clear c0 c1 c2 c3;obtain⟨c0,c1,c2,c3⟩:=HK.out w3 (hq2.trans hq3);have hz3:=hx3.size;have hx3:=hx2.trans hx3
     go_wp2_with fail
     refine(D3 HL.out HV.out b _ w3 h3 (HB.out.trans hx3) (by have:=Hl.out;simp only[zC];omega)).mono ?_
     rintro e w4 ⟨rfl,h4,hx4,hq4⟩
     go_wp2_with fail
     go_end0
     exact⟨rfl,h4,hx3.trans hx4,hq1.trans ((hq2.trans hq3).trans hq4)⟩
    .have et:bT (.mk k n s l)=di 107 k++di 110 n++dE s:=by simp[bT,hk0,hk1,hk2]
     rw[et] at hlen|-;have e3:l0++(di 107 k++di 110 n++dE s)=l0++di 107 k++di 110 n++dE s:=by simp
     rw[e3];simp only[zC] at hlen;have Hl:=Lib.hid hlen;clear hlen;have Het:=Lib.hid et;clear et;have He3:=Lib.hid e3;clear e3
     go_enter Tryz.func151,Tryz.ntmps151
     go_wp2_with fail
     rw[<-hw];refine(lf W.heap.size b l0 107 k w1 H1.out (HT.out _ hx1) hT.lt hk.1 hk.2 (by have:=Hl.out;omega) (by omega)).mono ?_
     rintro e w2 ⟨rfl,h2,hx2,hq2⟩;clear c0 c1 c2 c3;obtain⟨c0,c1,c2,c3⟩:=HK.out w2 hq2;have hz2:=hx2.size;have hx2:=hx1.trans hx2
     go_wp2_with fail
     refine(lf W.heap.size b _ 110 n w2 h2 (HT.out _ hx2) hT.lt hn.1 hn.2 (by have:=Hl.out;simp only[zC];omega) (by omega)).mono ?_
     rintro e w3 ⟨rfl,h3,hx3,hq3⟩;clear c0 c1 c2 c3;obtain⟨c0,c1,c2,c3⟩:=HK.out w3 (hq2.trans hq3);have hz3:=hx3.size;have hx3:=hx2.trans hx3
     go_wp2_with fail
     refine(Gf W.heap.size b _ s w3 h3 (HT.out _ hx3) hT.lt (by have:=Hl.out;simp only[zC];omega) (by omega)).mono ?_
     rintro e w4 ⟨rfl,h4,hx4,hq4⟩
     go_wp2_with fail
     go_end0
     exact⟨rfl,h4,hx3.trans hx4,hq1.trans ((hq2.trans hq3).trans hq4)⟩
set_option maxHeartbeats 2000000 in
theorem Gv(b k:Nat)(a:Option Addr)(w:World):Calls Tryz.prog 97 #[.pointer (some ⟨b,0,none⟩),.slice a 0 k] w λe w'=>e=.returned (.tuple #[])/\w'=w:=by
 go_enter Tryz.func97,Tryz.ntmps97
 go_wp2_with fail
 go_loopw [8] (λi wr=>i=.int .i64 0/\wr=w) (λi _=>0)
 case atStart=>exact⟨rfl,rfl⟩
 case round=>
  obtain⟨rfl,rfl⟩:=hrel
  go_wp2_with fail
  go_end0
  exact⟨rfl,rfl⟩
open Go.AM in
set_option maxHeartbeats 2000000 in
theorem J3{W:World}(hT:Tb W){key:List Tm}(hio:Tm.ios key){sv:Value}(hv:FV (Hp.of W) (slA Tm.av key) sv)(hlen:(bh key).length<=100000000):
  Calls Tryz.prog 47 #[sv] W λe w'=>e=.returned (.string ⟨(bh key).toArray⟩)/\Below W.heap.size W w':=by
 have hbx:=World.alloc_heap_new W (.cells #[.pointer none,.slice none 0 0] 162);have hx1:Below W.heap.size W (W.alloc (.cells #[.pointer none,.slice none 0 0] 162)):=(Below.refl _ W).alloc (zG _) _;obtain⟨w1,hw⟩:∃w1,w1=W.alloc (.cells #[.pointer none,.slice none 0 0] 162):=⟨_,rfl⟩;rw[<-hw] at hbx hx1;have hW1:=hx1.size;obtain⟨a,k,rfl,_⟩:=xp hv;have hw1:IsW W.heap.size W.heap.size [] w1:=.inl ⟨zG _,.slice none 0 0,hbx,World.ownsRow_nil _ _ _ _,by simp[Value.ownBlock]⟩
 by_cases hk:key=[]
 .subst hk;have Hx:=Lib.hid hbx;clear hbx;clear hv
  go_enter Tryz.func47,Tryz.ntmps47
  go_wp2_with fail
  rw[<-hw];have Hw:=Lib.hid hw;clear hw;refine(Gv W.heap.size k a w1).mono ?_;rintro e w2 ⟨rfl,rfl⟩
  go_wp2_with fail
  refine(Fb W.heap.size W.heap.size _ _ Hx.out).mono ?_;rintro e w3 ⟨rfl,hx3⟩
  go_wp2_with fail
  go_ret
  exact⟨rfl,hx1.trans hx3⟩
 .have hne:bh key≠[]:=by
   cases key with
   |nil=>exact absurd rfl hk
   |cons t l=>
    obtain⟨k',n',s',l'⟩:=t;simp only[bh,bT];split
    .simp [di]
    .split
     .simp [di]
     .split<;>simp[di]
  have Hv:=Lib.hid hv;clear hv;have Hne:=Lib.hid hne;clear hne;have Hl:=Lib.hid hlen;clear hlen;have Hio:=Lib.hid hio;clear hio
  go_enter Tryz.func47,Tryz.ntmps47
  go_wp2_with fail
  rw[<-hw];have Hw:=Lib.hid hw;clear hw;refine(D3 (λt ht=>J4 hT t (Tm.jr.1 Hio.out t ht)) Hv.out W.heap.size [] w1 hw1 hx1 (by simpa using Hl.out)).mono ?_
  rintro e w2 ⟨rfl,h2,hx2,hq2⟩;rw[Zl] at h2
  go_wp2_with fail
  refine(GC W.heap.size W.heap.size _ _ h2 Hne.out).mono ?_;rintro e w3 ⟨rfl,hx3⟩
  go_wp2_with fail
  go_ret
  exact⟨rfl,(hx1.trans hx2).trans hx3⟩
end Go.CK
