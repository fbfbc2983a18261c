/- Texts of this claim, joined: EqP, Del, Rd, Look, Pow, RdM. -/
import Derived.Test.YtabafgphmbdpgaaGreatDoorTe1
import Derived.Test.YtabafgphmbdpgaaGreatDoorTe22
import Derived.Deep.RegionLaw
import Derived.Lib.SliceRun
import Derived.Deep.Upon
import Derived.Deep.QuietTactic
import Derived.BigQuiet
import Derived.IntWalk
set_option maxHeartbeats 8000000
set_option maxRecDepth 100000
namespace Sr
open Go Go.Proofs Go.RowKit Go.Maps Go.WideMaps
theorem Has.nil (W:World): Has W []:=fun p hp=>by simp at hp
theorem isg_sub {x y:Int}: isg (x - y)=0↔x=y:=by rw[qM];omega
theorem E3.eq_iff {x y:E3}: x=y↔x.u=y.u∧x.v=y.v∧x.m=y.m:=by
 cases x; cases y; simp
instance:DecidableEq E3:=fun _ _=>decidable_of_iff _ E3.eq_iff.symm
theorem unit_calls {W:World}{V:Value}{x:E3}(h:IsE W V x): Calls Tryz.prog 94 #[V] W fun e W'=>e=.returned (.bool (decide (x=⟨0,0,0⟩)))∧Hid (Below W.heap.size W W'):=by
 obtain⟨xu,xv,xm,rfl,hxu,hxv,hxm⟩:=h
 have HB0:Hid (Below W.heap.size W (W.alloc (.cells #[.pointer xu,.pointer xv,.pointer xm] 28))):=(Below.refl _ _).alloc (jR _) _
 have HH0:=jH ((Has.nil W).add #[.pointer xu,.pointer xv,.pointer xm] 28)
 have hS1:=qQ (W:=W.alloc (.cells #[.pointer xu,.pointer xv,.pointer xm] 28)) (hxu.below HB0.out)
 have HV:=jH hxv
 have HM:=jH hxm
 clear hxu hxv hxm
 go_enter Tryz.func94,Tryz.ntmps94
 go_wp2_with fail
 refine hS1.mono ?_
 rintro e w1 ⟨rfl,hb1⟩
 have HB1:=jH (Below.trans' HB0.out hb1.out)
 have HH1:=jH (HH0.out.below hb1.out)
 clear hS1 hb1
 by_cases hu:x.u=0
 ·have h0:isg x.u=0:=qM.2 hu
  rw[h0]
  have c1:=HH1.out.cell (b:=W.heap.size) (c:=#[.pointer xu,.pointer xv,.pointer xm]) (T:=28) (by simp) 1
  have hS2:=qQ (W:=w1) (HV.out.below HB1.out)
  have HU:=jH hu
  clear h0 hu
  go_wp2_with fail
  refine hS2.mono ?_
  rintro e w2 ⟨rfl,hb2⟩
  have HB2:=jH (Below.trans' HB1.out hb2.out)
  have HH2:=jH (HH1.out.below hb2.out)
  clear hS2 hb2 c1
  by_cases hv:x.v=0
  ·have h0:isg x.v=0:=qM.2 hv
   rw[h0]
   have c2:=HH2.out.cell (b:=W.heap.size) (c:=#[.pointer xu,.pointer xv,.pointer xm]) (T:=28) (by simp) 2
   have hS3:=qQ (W:=w2) (HM.out.below HB2.out)
   have HVz:=jH hv
   clear h0 hv
   go_wp2_with fail
   refine hS3.mono ?_
   rintro e w3 ⟨rfl,hb3⟩
   have HB3:=jH (Below.trans' HB2.out hb3.out)
   clear hS3 hb3 c2
   go_wp2_with fail
   go_ret
   refine⟨?_,HB3⟩
   show Ending.returned (Value.bool (isg (x.m)==0))=_
   congr 2
   rw[Bool.eq_iff_iff]
   simp[E3.eq_iff,HU.out,HVz.out,qM]
  ·have h0:isg x.v≠0:=fun h=>hv (qM.1 h)
   have HVz:=jH hv
   have hd:decide (isg x.v=0)=false:=by simp[h0]
   clear hv
   go_wp2_with fail
   go_ret
   refine⟨?_,HB2⟩
   show Ending.returned (Value.bool false)=_
   congr 2
   rw[Bool.eq_iff_iff]
   simp[E3.eq_iff,HVz.out]
 ·have h0:isg x.u≠0:=fun h=>hu (qM.1 h)
  have HU:=jH hu
  have hd:decide (isg x.u=0)=false:=by simp[h0]
  clear hu
  go_wp2_with fail
  go_ret
  refine⟨?_,HB1⟩
  show Ending.returned (Value.bool false)=_
  congr 2
  rw[Bool.eq_iff_iff]
  simp[E3.eq_iff,HU.out]
theorem equal_calls {W:World}{V1 V2:Value}{x y:E3}(h1:IsE W V1 x)(h2:IsE W V2 y): Calls Tryz.prog 22 #[V1,V2] W fun e W'=>e=.returned (.bool (decide (x=y)))∧Hid (Below W.heap.size W W'):=by
 obtain⟨xu,xv,xm,rfl,hxu,hxv,hxm⟩:=h1
 obtain⟨yu,yv,ym,rfl,hyu,hyv,hym⟩:=h2
 obtain⟨W0,hW0⟩:∃ W0,W0=(W.alloc (.cells #[.pointer xu,.pointer xv,.pointer xm] 28)).alloc (.cells #[.pointer yu,.pointer yv,.pointer ym] 28):=⟨_,rfl⟩
 have HB0:Hid (Below W.heap.size W W0):=by show Below _ _ _; rw[hW0];exact ((Below.refl _ _).alloc (jR _) _).alloc (by simp) _
 have HH0:Hid (Has W0 [(W.heap.size+1,#[.pointer yu,.pointer yv,.pointer ym],28),(W.heap.size,#[.pointer xu,.pointer xv,.pointer xm],28)]):=by
  show Has _ _
  have h:=((Has.nil W).add #[.pointer xu,.pointer xv,.pointer xm] 28).add #[.pointer yu,.pointer yv,.pointer ym] 28
  rw[jY] at h
  rw[hW0];exact h
 have HW0:=jH hW0
 have hS1:=yF (W:=W0) (hxu.below HB0.out) (hyu.below HB0.out)
 have HV:=jH hxv
 have HM:=jH hxm
 have HV':=jH hyv
 have HM':=jH hym
 clear hxu hxv hxm hyu hyv hym hW0
 go_enter Tryz.func22,Tryz.ntmps22
 go_wp2_with fail
 rw[show (W.alloc (.cells #[.pointer xu,.pointer xv,.pointer xm] 28)).alloc (.cells #[.pointer yu,.pointer yv,.pointer ym] 28)=W0 from HW0.out.symm]
 refine hS1.mono ?_
 rintro e w1 ⟨rfl,hb1⟩
 have HB1:=jH (Below.trans' HB0.out hb1.out)
 have HH1:=jH (HH0.out.below hb1.out)
 clear hS1 hb1
 by_cases hu:x.u=y.u
 ·have h0:isg (x.u - y.u)=0:=isg_sub.2 hu
  rw[h0]
  have c1:=HH1.out.cell (b:=W.heap.size) (c:=#[.pointer xu,.pointer xv,.pointer xm]) (T:=28) (by simp) 1
  have c1':=HH1.out.cell (b:=W.heap.size+1) (c:=#[.pointer yu,.pointer yv,.pointer ym]) (T:=28) (by simp) 1
  have hS2:=yF (W:=w1) (HV.out.below HB1.out) (HV'.out.below HB1.out)
  have HU:=jH hu
  clear h0 hu
  go_wp2_with fail
  refine hS2.mono ?_
  rintro e w2 ⟨rfl,hb2⟩
  have HB2:=jH (Below.trans' HB1.out hb2.out)
  have HH2:=jH (HH1.out.below hb2.out)
  clear hS2 hb2 c1 c1'
  by_cases hv:x.v=y.v
  ·have h0:isg (x.v - y.v)=0:=isg_sub.2 hv
   rw[h0]
   have c2:=HH2.out.cell (b:=W.heap.size) (c:=#[.pointer xu,.pointer xv,.pointer xm]) (T:=28) (by simp) 2
   have c2':=HH2.out.cell (b:=W.heap.size+1) (c:=#[.pointer yu,.pointer yv,.pointer ym]) (T:=28) (by simp) 2
   have hS3:=yF (W:=w2) (HM.out.below HB2.out) (HM'.out.below HB2.out)
   have HVz:=jH hv
   clear h0 hv
   go_wp2_with fail
   refine hS3.mono ?_
   rintro e w3 ⟨rfl,hb3⟩
   have HB3:=jH (Below.trans' HB2.out hb3.out)
   clear hS3 hb3 c2 c2'
   go_wp2_with fail
   go_ret
   refine⟨?_,HB3⟩
   show Ending.returned (Value.bool (isg (x.m - y.m)==0))=_
   congr 2
   rw[Bool.eq_iff_iff]
   simp[E3.eq_iff,HU.out,HVz.out,isg_sub]
  ·have h0:isg (x.v - y.v)≠0:=fun h=>hv (isg_sub.1 h)
   have HVz:=jH hv
   have hd:decide (isg (x.v - y.v)=0)=false:=by simp[h0]
   clear hv
   go_wp2_with fail
   go_ret
   refine⟨?_,HB2⟩
   show Ending.returned (Value.bool false)=_
   congr 2
   rw[Bool.eq_iff_iff]
   simp[E3.eq_iff,HVz.out]
 ·have h0:isg (x.u - y.u)≠0:=fun h=>hu (isg_sub.1 h)
  have HU:=jH hu
  have hd:decide (isg (x.u - y.u)=0)=false:=by simp[h0]
  clear hu
  go_wp2_with fail
  go_ret
  refine⟨?_,HB1⟩
  show Ending.returned (Value.bool false)=_
  congr 2
  rw[Bool.eq_iff_iff]
  simp[E3.eq_iff,HU.out]
section
theorem zero5 (w:World): (zeroValue 5).run Tryz.prog w=.ok (.int .u8 0) w:=by kernel_rfl
theorem zero28 (w:World): (zeroValue 28).run Tryz.prog w=.ok (.agg #[.pointer none,.pointer none,.pointer none]) w:=by kernel_rfl
theorem un150:Tryz.prog.underlying 150=some (.slice 28):=by kernel_rfl
theorem info28:(Tryz.prog.info? 28).map (fun i=>(i.zero,i.size,i.bytes))=some (some (.agg #[.pointer none,.pointer none,.pointer none]),3,24):=by kernel_rfl
theorem run_clear_row {P:Program}(w:World)(t e ty:TypeId)(z:Value)(ht:P.underlying t=some (.slice e))(hv:∀ w,(zeroValue e).run P w=.ok z w)(b o n c:Nat)(hn:0<n) 
 (L:List Value) (hL:(Builtin.zeroCells z.cells n).toList=L) (h1:∀ u∈L,u.oneCell'=true)
 (hc:∀ j,j<L.length→(w.cell? ⟨b,o+j,none⟩).isSome=true) (hf:∀ j,j<L.length→w.frozen? ⟨b,o+j,none⟩=false) :
 (Builtin.clear_ #[t] ty #[.slice (some ⟨b,o,none⟩) n c]).run P w=.ok (.tuple #[]) (w.setCells b o L):=by
 have hst:=run_storeCells_cells (P:=P) b o L 0 w (by simpa using hc) (by simpa using hf) h1
 simp only[Nat.add_zero] at hst
 obtain⟨m,rfl⟩:∃ m,n=m+1:=⟨n - 1,by omega⟩
 simp[Builtin.clear_,run_underlying ht,hv,hL,hst]
theorem set_run {c vs:List Value}{o:Nat}{v:Value}(h:o<c.length): (c.set o v).take (o+1)++(vs++(c.set o v).drop (o+1+vs.length))=c.take o++((v::vs)++c.drop (o+(v::vs).length)):=by
 obtain⟨A,x,B,rfl,rfl⟩:∃ A x B,c=A++x::B∧A.length=o:=⟨c.take o,c[o],c.drop (o+1),by simp,by simp; omega⟩
 have e1:(A++x::B).set A.length v=(A++[v])++B:=by simp
 have e2:A++x::B=(A++[x])++B:=by simp
 have l1:A.length+1=(A++[v]).length:=by simp
 rw[e1,List.take_append_of_le_length (by simp),l1,List.take_length,List.drop_append,List.drop_of_length_le (by simp),List.take_left,e2,List.drop_append]
 have e3:List.drop (A.length+(v::vs).length) (A++[x])=[]:=List.drop_of_length_le (by simp)
 have e4:(A++[v]).length+vs.length - (A++[v]).length=vs.length:=by omega
 have e5:A.length+(v::vs).length - (A++[x]).length=vs.length:=by simp; omega
 rw[e3,e4,e5]
 simp
theorem zC {g:Nat}{T:TypeId}: ∀ (vs:List Value) (o:Nat) (w:World) (cur:Array Value),w.heap[g]? = some (.cells cur T (0,0))→o+vs.length≤cur.size →
 ∃ cur':Array Value,(w.setCells g o vs).heap[g]? = some (.cells cur' T (0,0))∧cur'.toList=cur.toList.take o++vs++cur.toList.drop (o+vs.length)
 | [],o,w,cur,h,_=>⟨cur,h,by simp⟩
 | v::vs,o,w,cur,h,hl=>by
   have h1:=heap_setCell_same w g o cur T v h
   simp only[List.length_cons] at hl
   obtain⟨cur',h2,h3⟩:=zC vs (o+1) _ _ h1 (by simp; omega)
   refine⟨cur',h2,?_⟩
   rw[h3,Array.toList_setIfInBounds,List.append_assoc,List.append_assoc]
   exact set_run (by simp; omega)
theorem y4 (g o:Nat)(vs:List Value)(w:World): Fr [g] w (w.setCells g o vs):=by
 induction vs generalizing o w with
 | nil=>exact Fr.refl _ _
 | cons v vs ih =>
   have h:=ih (o+1) (w.setCell ⟨g,o,none⟩ v)
   exact⟨h.os,h.tape,h.output,by have:=h.size; simp at this; exact this,fun b hb hn=>(h.block b (by simpa using hb) hn).trans (jS _ _ _ _ (by simpa using hn))⟩
variable {g:Nat}
theorem delB_calls {W:World}{n cap i j:Nat}{xs:List Value}(hr:W.ownsRow 0 5 1 (.slice (some ⟨g,0,none⟩) n cap) n xs)(hone:∀ u∈xs,u.oneCell'=true)(hij:i<j)(hj:j≤n):
 Calls Tryz.prog 112 #[.slice (some ⟨g,0,none⟩) n cap,.int .i64 i,.int .i64 j] W fun e W'=>e=.returned (.slice (some ⟨g,0,none⟩) (n - (j - i)) cap)∧Hid (W'.ownsRow 0 5 1 (.slice (some ⟨g,0,none⟩) (n - (j - i)) cap) (n - (j - i)) (xs.take i++xs.drop j))∧Hid (Fr [g] W W'):=by
 obtain⟨hxl,⟨hh,-⟩ | ⟨g',cap',cur,he,-,hg,hnc,hcm,hsz,hx⟩⟩:=hr
 ·cases hh
 cases he
 rw[Nat.mul_one] at hxl hsz hx
 simp only[maxLen] at hcm
 obtain⟨i0,hi0,hz0,hz1,hz2⟩:=info_parts info5
 have hgetx:∀ t u,xs[t]? = some u→W.cell? ⟨g,t,none⟩=some u:=fun t u h=>by
  rw[jB hg]
  have ht:=(jL h).1
  rw[← hx,List.getElem?_take_of_lt (by omega)] at h
  simpa using h
 obtain⟨news,hnews⟩:∃ news,news=xs.drop j:=⟨_,rfl⟩
 have hlen:news.length=n - j:=by rw[hnews];simp; omega
 obtain⟨A,hA,hsrc⟩:∃ A:Addr,(if cap=j then some (⟨g,0,none⟩:Addr) else some ⟨g,j,none⟩)=some A∧Hid (∀ t u,news[t]? = some u→W.drew.cell? (A.add t)=some u):=by
  by_cases h:cap=j
  ·refine⟨⟨g,0,none⟩,by simp[h],fun t u hu=>?_⟩
   have h0:news.length=0:=by rw[hlen];omega
   rw[List.length_eq_zero_iff.1 h0] at hu
   simp at hu
  ·refine⟨⟨g,j,none⟩,by simp[h],fun t u hu=>?_⟩
   rw[hnews,List.getElem?_drop] at hu
   rw[Addr.add_lit]
   exact hgetx _ _ hu
 have s1:Hid (news.length=(n - j)*1):=by rw[Nat.mul_one];exact hlen
 have s2:Hid (∀ u∈news,u.oneCell'=true):=fun u hu=>hone u (List.mem_of_mem_drop (hnews▸hu))
 have hcell:∀ t,t<n→(W.cell? ⟨g,t,none⟩).isSome=true:=fun t ht=>by rw[jB hg];simp; omega
 have hfree:∀ t,W.frozen? ⟨g,t,none⟩=false:=fun t=>jF hg t
 have s3:Hid (∀ t,t<news.length→(W.drew.cell? ⟨g,0+i*1+t,none⟩).isSome=true∧W.drew.frozen? ⟨g,0+i*1+t,none⟩=false):=by
  intro t ht
  rw[hlen] at ht
  exact⟨hcell _ (by omega),hfree _⟩
 obtain⟨W1,hW1⟩:∃ W1,W1=W.drew.setCells g (0+i*1) news:=⟨_,rfl⟩
 obtain⟨cur1,hg1,hc1⟩:=zC news (0+i*1) W.drew cur hg (by rw[hlen];omega)
 rw[← hW1] at hg1
 have hcl1:cur1.toList.length=cap:=by rw[hc1];simp; omega
 obtain⟨L,hL⟩:∃ L,(Builtin.zeroCells (Value.int .u8 0).cells (n - (i+(n - j)))).toList=L:=⟨_,rfl⟩
 have hLl:L.length=n - (i+(n - j)):=by rw[← hL];simp[Builtin.zeroCells,Value.cells]
 have hL1:∀ u∈L,u.oneCell'=true:=by
  rw[← hL];intro u hu
  simp[Builtin.zeroCells,Value.cells,Nat.mod_one] at hu
  rw[← hu.2];rfl
 have hcl:(∀ ty,(Builtin.clear_ #[40] ty #[.slice (some ⟨g,(i+(n - j)),none⟩) (n - (i+(n - j))) (cap - (i+(n - j)))]).run Tryz.prog W1=.ok (.tuple #[]) (W1.setCells g (i+(n - j)) L)) :=
  fun ty=>run_clear_row W1 40 5 ty (.int .u8 0) un40 zero5 g _ _ _ (by omega) L hL hL1 (fun t ht=>by rw[jB hg1];simp; have:cur1.size=cap:=hcl1; omega) (fun t ht=>jF hg1 _)
 have hW:Hid (W1=W.drew.setCells g (0+i*1) news):=hW1
 have HG1:=jH hg1
 have HC1:=jH hc1
 have HX:=jH hx
 have HSZ:=jH hsz
 have HXL:=jH hxl
 have HN:=jH hnews
 have HLL:=jH hLl
 have HCL:=jH hcl1
 have hic:i≤cap:=by omega
 have hjc:j≤cap:=by omega
 clear hW1 hnews hlen hgetx hcell hfree hg hx hsz hxl hg1 hc1 hL hLl hL1 hone hcl1
 go_enter Tryz.func112,Tryz.ntmps112
 go_wp2_with fail
 go_region_law (refine step_append_room rfl (.tmp 22) (.tmp 25) 40 rfl 5 i0 1 un40 hi0 hz1 g 0 i cap (by simp[Act.eval,Act.put]) A (n - j) (cap - j) news (by simp[Act.eval,Act.put]) s1.out hsrc.out s2.out (by omega) s3.out ?_; rw[← hW.out])
 go_wp2
 go_ret
 rw[show n - (j - i)=i+(n - j) by omega]
 have hc:=HCL.out
 have hL:=HLL.out
 obtain⟨cur2,hg2,hc2⟩:=zC L (i+(n - j)) W1 cur1 HG1.out (by have:cur1.size=cap:=hc; omega)
 have hc1:=HC1.out
 have hn1:news.length=n - j:=by have:=s1.out; omega
 have hsz2:cur2.toList.length=cap:=by rw[hc2];simp[Nat.min_def];have:cur1.size=cap:=hc; split <;>omega
 refine⟨rfl,⟨?_,.inr ⟨g,cap,cur2,rfl,Nat.zero_le _,hg2,by omega,by simp only[maxLen];omega,by simpa using hsz2,?_⟩⟩,?_⟩
 ·have:=HXL.out; simp; omega
 ·have hcs:cur.toList.length=cap:=HSZ.out
  have hA:(cur.toList.take (0+i*1)).length=i:=by rw[List.length_take];omega
  have hAN:(cur.toList.take (0+i*1)++news).length=i+(n - j):=by rw[List.length_append,hA,hn1]
  have hB:(cur1.toList.take (i+(n - j))).length=i+(n - j):=by rw[List.length_take];omega
  have hfin:cur.toList.take (0+i*1)=xs.take i:=by rw[← HX.out,List.take_take];congr 1; omega
  rw[Nat.mul_one,hc2,List.append_assoc,List.take_append_of_le_length (by omega),List.take_take,Nat.min_self,hc1,List.take_append_of_le_length (by omega),List.take_of_length_le (by omega),hfin,HN.out]
 ·have h1:Fr [g] W W.drew:=Fr.of_below ((Below.refl _ _).drew)
  have h2:Fr [g] W W1:=by rw[hW.out];exact h1.pre (y4 _ _ _ _)
  exact h2.pre (y4 _ _ _ _)
theorem delE_calls {W:World}{n cap i j:Nat}{xs:List Value}(hr:W.ownsRow 0 28 3 (.slice (some ⟨g,0,none⟩) n cap) n xs)(hone:∀ u∈xs,u.oneCell'=true)(hij:i<j)(hj:j≤n):
 Calls Tryz.prog 111 #[.slice (some ⟨g,0,none⟩) n cap,.int .i64 i,.int .i64 j] W fun e W'=>e=.returned (.slice (some ⟨g,0,none⟩) (n - (j - i)) cap)∧Hid (W'.ownsRow 0 28 3 (.slice (some ⟨g,0,none⟩) (n - (j - i)) cap) (n - (j - i)) (xs.take (i*3)++xs.drop (j*3)))∧Hid (Fr [g] W W'):=by
 obtain⟨hxl,⟨hh,-⟩ | ⟨g',cap',cur,he,-,hg,hnc,hcm,hsz,hx⟩⟩:=hr
 ·cases hh
 cases he
 simp only[maxLen] at hcm
 obtain⟨i0,hi0,hz0,hz1,hz2⟩:=info_parts info28
 have hgetx:∀ t u,xs[t]? = some u→W.cell? ⟨g,t,none⟩=some u:=fun t u h=>by
  rw[jB hg]
  have ht:=(jL h).1
  rw[← hx,List.getElem?_take_of_lt (by omega)] at h
  simpa using h
 obtain⟨news,hnews⟩:∃ news,news=xs.drop (j*3):=⟨_,rfl⟩
 have hlen:news.length=(n - j)*3:=by rw[hnews];simp; omega
 obtain⟨A,hA,hsrc⟩:∃ A:Addr,(if cap=j then some (⟨g,0,none⟩:Addr) else some ⟨g,j*3,none⟩)=some A∧Hid (∀ t u,news[t]? = some u→W.drew.cell? (A.add t)=some u):=by
  by_cases h:cap=j
  ·refine⟨⟨g,0,none⟩,by simp[h],fun t u hu=>?_⟩
   have h0:news.length=0:=by rw[hlen];omega
   rw[List.length_eq_zero_iff.1 h0] at hu
   simp at hu
  ·refine⟨⟨g,j*3,none⟩,by simp[h],fun t u hu=>?_⟩
   rw[hnews,List.getElem?_drop] at hu
   rw[Addr.add_lit]
   exact hgetx _ _ hu
 have s1:Hid (news.length=(n - j)*3):=hlen
 have s2:Hid (∀ u∈news,u.oneCell'=true):=fun u hu=>hone u (List.mem_of_mem_drop (hnews▸hu))
 have hcell:∀ t,t<n*3→(W.cell? ⟨g,t,none⟩).isSome=true:=fun t ht=>by rw[jB hg];simp; omega
 have hfree:∀ t,W.frozen? ⟨g,t,none⟩=false:=fun t=>jF hg t
 have s3:Hid (∀ t,t<news.length→(W.drew.cell? ⟨g,0+i*3+t,none⟩).isSome=true∧W.drew.frozen? ⟨g,0+i*3+t,none⟩=false):=by
  intro t ht
  rw[hlen] at ht
  exact⟨hcell _ (by omega),hfree _⟩
 obtain⟨W1,hW1⟩:∃ W1,W1=W.drew.setCells g (0+i*3) news:=⟨_,rfl⟩
 obtain⟨cur1,hg1,hc1⟩:=zC news (0+i*3) W.drew cur hg (by rw[hlen];omega)
 rw[← hW1] at hg1
 have hcl1:cur1.toList.length=cap*3:=by rw[hc1];simp; omega
 obtain⟨L,hL⟩:∃ L,(Builtin.zeroCells (Value.agg #[.pointer none,.pointer none,.pointer none]).cells (n - (i+(n - j)))).toList=L:=⟨_,rfl⟩
 have hLl:L.length=(n - (i+(n - j)))*3:=by rw[← hL];simp[Builtin.zeroCells,Value.cells]
 have hL1:∀ u∈L,u.oneCell'=true:=by
  rw[← hL];intro u hu
  simp only[Builtin.zeroCells,Array.toList_map,List.mem_map,Array.mem_toList_iff,Array.mem_range] at hu
  obtain⟨k,-,rfl⟩:=hu
  have:k % (Value.agg #[.pointer none,.pointer none,.pointer none]).cells.size<3:=Nat.mod_lt _ (by decide)
  generalize k % (Value.agg #[.pointer none,.pointer none,.pointer none]).cells.size=m at this ⊢
  match m,this with
  | 0,_=>rfl
  | 1,_=>rfl
  | 2,_=>rfl
 have hcl:(∀ ty,(Builtin.clear_ #[150] ty #[.slice (some ⟨g,(i+(n - j))*3,none⟩) (n - (i+(n - j))) (cap - (i+(n - j)))]).run Tryz.prog W1=.ok (.tuple #[]) (W1.setCells g ((i+(n - j))*3) L)) :=
  fun ty=>run_clear_row W1 150 28 ty (.agg #[.pointer none,.pointer none,.pointer none]) un150 zero28 g _ _ _ (by omega) L hL hL1 (fun t ht=>by rw[jB hg1];simp; have:cur1.size=cap*3:=hcl1; omega) (fun t ht=>jF hg1 _)
 have hW:Hid (W1=W.drew.setCells g (0+i*3) news):=hW1
 have HG1:=jH hg1
 have HC1:=jH hc1
 have HX:=jH hx
 have HSZ:=jH hsz
 have HXL:=jH hxl
 have HN:=jH hnews
 have HLL:=jH hLl
 have HCL:=jH hcl1
 have hic:i≤cap:=by omega
 have hjc:j≤cap:=by omega
 clear hW1 hnews hlen hgetx hcell hfree hg hx hsz hxl hg1 hc1 hL hLl hL1 hone hcl1
 go_enter Tryz.func111,Tryz.ntmps111
 go_wp2_with fail
 go_region_law (refine step_append_room rfl (.tmp 22) (.tmp 25) 150 rfl 28 i0 3 un150 hi0 hz1 g 0 i cap (by simp[Act.eval,Act.put]) A (n - j) (cap - j) news (by simp[Act.eval,Act.put]) s1.out hsrc.out s2.out (by omega) s3.out ?_; rw[← hW.out])
 go_wp2
 go_ret
 rw[show n - (j - i)=i+(n - j) by omega]
 have hc:=HCL.out
 have hL:=HLL.out
 obtain⟨cur2,hg2,hc2⟩:=zC L ((i+(n - j))*3) W1 cur1 HG1.out (by have:cur1.size=cap*3:=hc; omega)
 have hc1:=HC1.out
 have hn1:news.length=(n - j)*3:=by have:=s1.out; omega
 have hsz2:cur2.toList.length=cap*3:=by rw[hc2];simp[Nat.min_def];have:cur1.size=cap*3:=hc; split <;>omega
 refine⟨rfl,⟨?_,.inr ⟨g,cap,cur2,rfl,Nat.zero_le _,hg2,by omega,by simp only[maxLen];omega,by simpa using hsz2,?_⟩⟩,?_⟩
 ·have:=HXL.out; simp; omega
 ·have hcs:cur.toList.length=cap*3:=HSZ.out
  have hA:(cur.toList.take (0+i*3)).length=i*3:=by rw[List.length_take];omega
  have hAN:(cur.toList.take (0+i*3)++news).length=(i+(n - j))*3:=by rw[List.length_append,hA,hn1];omega
  have hB:(cur1.toList.take ((i+(n - j))*3)).length=(i+(n - j))*3:=by rw[List.length_take];omega
  have hfin:cur.toList.take (0+i*3)=xs.take (i*3):=by rw[← HX.out,List.take_take];congr 1; omega
  rw[hc2,List.append_assoc,List.take_append_of_le_length (by omega),List.take_take,Nat.min_self,hc1,List.take_append_of_le_length (by omega),List.take_of_length_le (by omega),hfin,HN.out]
 ·have h1:Fr [g] W W.drew:=Fr.of_below ((Below.refl _ _).drew)
  have h2:Fr [g] W W1:=by rw[hW.out];exact h1.pre (y4 _ _ _ _)
  exact h2.pre (y4 _ _ _ _)
end
section
abbrev Q3:=Option Addr×Option Addr×Option Addr
def qv (t:Q3): Value:=.agg #[.pointer t.1,.pointer t.2.1,.pointer t.2.2]
def qcl (l:List Q3): List Value:=l.flatMap fun t=>[.pointer t.1,.pointer t.2.1,.pointer t.2.2]
theorem qcl_len (l:List Q3): (qcl l).length=l.length*3:=by
 induction l with
 | nil=>rfl
 | cons t l ih=>simp only[qcl,List.flatMap_cons,List.length_append,List.length_cons,List.length_nil] at *;omega
theorem qcl_append (a b:List Q3): qcl (a++b)=qcl a++qcl b:=by simp[qcl]
theorem qcl_cons (t:Q3)(l:List Q3): qcl (t::l)=[.pointer t.1,.pointer t.2.1,.pointer t.2.2]++qcl l:=rfl
theorem qcl_one (l:List Q3): ∀ u∈qcl l,u.oneCell'=true:=by
 intro u hu
 obtain⟨t,_,hu⟩:=List.mem_flatMap.1 hu
 simp at hu
 rcases hu with rfl | rfl | rfl <;>rfl
theorem qcl_get:∀ {l:List Q3} {k:Nat} {t:Q3},l[k]? = some t→(qcl l)[k*3]? = some (.pointer t.1)∧(qcl l)[k*3+1]? = some (.pointer t.2.1)∧(qcl l)[k*3+2]? = some (.pointer t.2.2)
 | [],_,_,h=>by simp at h
 | u::l,0,t,h=>by simp at h; subst h; simp[qcl]
 | u::l,k+1,t,h=>by
   have:=qcl_get (l:=l) (k:=k) (t:=t) (by simpa using h)
   rw[qcl_cons,List.getElem?_append_right (by simp; omega),List.getElem?_append_right (by simp; omega),List.getElem?_append_right (by simp; omega)]
   have e1:(k+1)*3 - [Value.pointer u.1,Value.pointer u.2.1,Value.pointer u.2.2].length=k*3:=by simp; omega
   have e2:(k+1)*3+1 - [Value.pointer u.1,Value.pointer u.2.1,Value.pointer u.2.2].length=k*3+1:=by simp; omega
   have e3:(k+1)*3+2 - [Value.pointer u.1,Value.pointer u.2.1,Value.pointer u.2.2].length=k*3+2:=by simp; omega
   rw[e1,e2,e3];exact this
theorem qcl_take (l:List Q3)(k:Nat): (qcl l).take (k*3)=qcl (l.take k):=by
 induction k generalizing l with
 | zero=>simp[qcl]
 | succ k ih=>cases l with
   | nil=>simp[qcl]
   | cons t l =>
     have e:(k+1)*3 - [Value.pointer t.1,Value.pointer t.2.1,Value.pointer t.2.2].length=k*3:=by simp; omega
     rw[qcl_cons,List.take_succ_cons,qcl_cons,← ih,List.take_append,List.take_of_length_le (by simp; omega),e]
theorem qcl_drop (l:List Q3)(k:Nat): (qcl l).drop (k*3)=qcl (l.drop k):=by
 induction k generalizing l with
 | zero=>simp
 | succ k ih=>cases l with
   | nil=>simp[qcl]
   | cons t l =>
     have e:(k+1)*3 - [Value.pointer t.1,Value.pointer t.2.1,Value.pointer t.2.2].length=k*3:=by simp; omega
     rw[qcl_cons,List.drop_succ_cons,← ih,List.drop_append,List.drop_of_length_le (by simp; omega),e];simp
variable {W w:World} {e:TypeId} {s n i B p:Nat} {xs:List Value} {v ov gv:Value} {l:List Q3} {o:List UInt8} {G:List E3}
theorem y5 {g cap:Nat}(h:W.ownsRow 0 e s (.slice (some ⟨g,0,none⟩) n cap) n xs)(hi:xs[i]? = some v): W.cell? ⟨g,i,none⟩=some v:=by
 obtain⟨hl,⟨hh,-⟩ | ⟨g',cap',cur,he,-,hg,-,-,-,hx⟩⟩:=h
 ·cases hh
 ·cases he
  rw[jB hg]
  have ht:=(jL hi).1
  rw[← hx,List.getElem?_take_of_lt (by omega)] at hi
  simpa using hi
theorem zr (h:W.ownsRow 0 e s v n xs)(hn:0<n): ∃ g cap,v=.slice (some ⟨g,0,none⟩) n cap∧n≤cap∧cap≤maxLen:=by
 obtain⟨hl,⟨-,h0⟩ | ⟨g',cap',cur,rfl,-,hg,h1,h2,-,hx⟩⟩:=h
 ·omega
 ·exact⟨_,_,rfl,h1,h2⟩
theorem zJ (h:W.ownsRow 0 e s v n xs)(hb:Below W.heap.size W w): w.ownsRow 0 e s v n xs:=by
 obtain⟨hl,⟨h1,h0⟩ | ⟨g',cap',cur,rfl,h00,hg,h1,h2,h3,hx⟩⟩:=h
 ·exact⟨hl,.inl ⟨h1,h0⟩⟩
 ·exact⟨hl,.inr ⟨_,_,_,rfl,h00,Below.here hb hg,h1,h2,h3,hx⟩⟩
structure Rd (B:Nat)(w:World)(p:Nat)(ov gv:Value)(l:List Q3)(o:List UInt8)(G:List E3): Prop where
 obj:w.heap[p]? = some (.cells #[ov,gv] 152 (0,0))
 out:BRow w ov o
 row:w.ownsRow 0 28 3 gv l.length (qcl l)
 len:l.length=G.length
 els:∀ (i:Nat) (t:Q3) (x:E3),l[i]? = some t→G[i]? = some x→IsE w (qv t) x
 hp:B≤p
 ho:∀ b,ov.ownBlock=some b→B≤b
 hg:∀ b,gv.ownBlock=some b→B≤b
theorem Rd.below {B:Nat}{w w':World}{p:Nat}{ov gv:Value}{l:List Q3}{o:List UInt8}{G:List E3}(h:Rd B w p ov gv l o G)(hb:Below w.heap.size w w'): Rd B w' p ov gv l o G:={
 obj:=Below.here hb h.obj
 out:=zJ h.out hb
 row:=zJ h.row hb
 len:=h.len
 els:=fun i t x h1 h2=>(h.els i t x h1 h2).below hb
 hp:=h.hp,ho:=h.ho,hg:=h.hg }
theorem Rd.c0 (h:Rd B w p ov gv l o G): w.cell? ⟨p,0,none⟩=some ov:=by rw[jB h.obj];rfl
theorem Rd.c1 (h:Rd B w p ov gv l o G): w.cell? ⟨p,1,none⟩=some gv:=by rw[jB h.obj];rfl
theorem Rd.el (h:Rd B w p ov gv l o G){x:E3}(hi:G[i]? = some x):
 ∃ (g cap:Nat) (t:Q3),gv=.slice (some ⟨g,0,none⟩) G.length cap∧l[i]? = some t∧IsE w (qv t) x∧w.cell? ⟨g,i*3,none⟩=some (.pointer t.1)∧w.cell? ⟨g,i*3+1,none⟩=some (.pointer t.2.1)∧w.cell? ⟨g,i*3+2,none⟩=some (.pointer t.2.2):=by
 have hlt:=(jL hi).1
 have hl:=h.len
 obtain⟨g,cap,e,-,-⟩:=zr h.row (by omega)
 obtain⟨t,ht⟩:∃ t,l[i]? = some t:=⟨l[i],jG (by omega)⟩
 have hr:=h.row
 rw[e] at hr
 have hq:=qcl_get ht
 exact⟨g,cap,t,by rw[e,hl],ht,h.els i t x ht hi,y5 hr hq.1,y5 hr hq.2.1,y5 hr hq.2.2⟩
theorem Rd.byte (h:Rd B w p ov gv l o G){c:UInt8}(hi:o[i]? = some c):
 ∃ (g cap:Nat),ov=.slice (some ⟨g,0,none⟩) o.length cap∧∀ {j:Nat} {d:UInt8},o[j]? = some d→w.cell? ⟨g,j,none⟩=some (.int .u8 (d.toNat:Nat)):=by
 have hlt:=(jL hi).1
 obtain⟨g,cap,e,-,-⟩:=zr h.out (by omega)
 have hr:=h.out
 rw[e] at hr
 exact⟨g,cap,e,fun {j d} hj=>y5 hr (by rw[List.getElem?_map,hj];rfl)⟩
end
def pinB (c:UInt8)(g:E3): Bool:=if c=98 then decide (g.m=0∧(g.u=0∨0≤g.v)) else decide (g.u=0)
theorem qp (w:World)(n:Nat): Hid (Below w.heap.size w (w.drewN n)):=by
 induction n generalizing w with
 | zero=>exact Below.refl _ _
 | succ n ih=>exact Below.drew (ih w)
theorem cell_drewN (w:World)(n:Nat)(a:Addr): (w.drewN n).cell? a=w.cell? a:=by
 induction n generalizing w with
 | zero=>rfl
 | succ n ih=>exact ih w
theorem IsE.parts {w:World}{t:Q3}{x:E3}(h:IsE w (qv t) x): IsN w (.agg #[.pointer t.1]) x.u∧IsN w (.agg #[.pointer t.2.1]) x.v∧IsN w (.agg #[.pointer t.2.2]) x.m:=by
 obtain⟨a,b,c,h0,h1⟩:=h
 simp only[qv,Value.agg.injEq] at h0
 have e:=congrArg Array.toList h0
 simp at e
 rw[e.1,e.2.1,e.2.2];exact h1
theorem pinched_calls {B:Nat}{W:World}{p:Nat}{ov gv:Value}{l:List Q3}{o:List UInt8}{G:List E3}(h:Rd B W p ov gv l o G){i:Nat}{c d:UInt8}{x:E3}(hc:o[i]? = some c)(hd:o[i+1]? = some d)(hx:G[i+1]? = some x)(hl:o.length≤1000000)(hgl:G.length=o.length+1):
 Calls Tryz.prog 66 #[.pointer (some ⟨p,0,none⟩),.int .i64 i] W fun e W'=>e=.returned (.bool (decide (c≠d)&&pinB c x))∧Hid (Below W.heap.size W W'):=by
 obtain⟨ob,oc,rfl,hby⟩:=h.byte hc
 obtain⟨gb,gc,t,rfl,ht,hie,g0,g1,g2⟩:=h.el hx
 have a0:=h.c0
 have a1:=h.c1
 have bc:=hby hc
 have bd:=hby hd
 have hi:i+1<o.length:=(jL hd).1
 have i1:((i:Int)+1).toNat=i+1:=by omega
 have i2:(0:Int)≤(i:Int)+1:=by omega
 have i3:((i:Int)+1)<(o.length:Int):=by omega
 have i4:((i:Int)+1)<(G.length:Int):=by omega
 have i5:(i:Int)<(o.length:Int):=by omega
 have i6:((i:Int)).toNat=i:=by omega
 have q1:decide ((i:Int)<0)=false:=by simp
 have q2:decide ((o.length:Int) - 1≤(i:Int))=false:=by simp; omega
 have w1:IntKind.i64.wrap ((i:Int)+1)=(i:Int)+1:=by rw[IntKind.wrap_i64];omega
 have w2:IntKind.i64.wrap ((o.length:Int) - 1)=(o.length:Int) - 1:=by rw[IntKind.wrap_i64];omega
 have HR:=jH h
 have HE:=jH hie
 clear hby h hie
 go_enter Tryz.func66,Tryz.ntmps66
 go_wp2_with fail
 by_cases hcd:c=d
 ·have hcd1:(c.toNat:Int)=(d.toNat:Int):=by rw[hcd]
  go_quiet (fail)
  go_wp2_with fail
  go_ret
  refine⟨?_,qp _ _⟩
  show Ending.returned (Value.bool false)=_
  simp[hcd]
 ·have hcd1:decide ((c.toNat:Int)=(d.toNat:Int))=false:=by
   simp only[decide_eq_false_iff_not];intro h; exact hcd (UInt8.toNat_inj.1 (by omega))
  have hcd2:((c.toNat:Int)==(d.toNat:Int))=false:=by simpa using hcd1
  go_quiet (fail)
  obtain⟨W1,hW1⟩:∃ W1,W1=W.drewN nq:=⟨_,rfl⟩
  rw[← hW1]
  have HB1:Hid (Below W.heap.size W W1):=by show Below _ _ _; rw[hW1];exact (qp _ _).out
  rw[← cell_drewN W nq,← hW1] at a0 a1 bc bd g0 g1 g2
  clear hW1
  have lp:=jg a0
  have np:p≠W1.heap.size:=Nat.ne_of_lt lp
  have lb:=jg bc
  have nb:ob≠W1.heap.size:=Nat.ne_of_lt lb
  have HH:=jH ((Has.nil W1).add #[.pointer t.1,.pointer t.2.1,.pointer t.2.2] 28)
  have HB2:Hid (Below W.heap.size W (W1.alloc (.cells #[.pointer t.1,.pointer t.2.1,.pointer t.2.2] 28))):=HB1.out.alloc HB1.out.size _
  obtain⟨hu,hv,hm⟩:=HE.out.parts
  have HU:=jH (hu.below HB2.out)
  have HV:=jH (hv.below HB2.out)
  have HM:=jH (hm.below HB2.out)
  clear hu hv hm
  by_cases hb:c=98
  ·have hb1:(c.toNat:Int)=98:=by rw[hb];rfl
   have hnd:¬ (98:UInt8)=d:=hb▸hcd
   have hdn:((98:Int)==(d.toNat:Int))=false:=by rw[← hb1];exact hcd2
   have hdn2:decide ((98:Int)=(d.toNat:Int))=false:=by rw[← hb1];exact hcd1
   have hSm:=qQ HM.out
   go_wp2_with fail
   refine hSm.mono ?_
   rintro e w2 ⟨rfl,hb2⟩
   have HB3:=jH (Below.trans' HB2.out hb2.out)
   have HH2:=jH (HH.out.below hb2.out)
   have HU2:=jH (HU.out.below hb2.out)
   have HV2:=jH (HV.out.below hb2.out)
   have c0:=HH2.out.cell (b:=W1.heap.size) (c:=#[.pointer t.1,.pointer t.2.1,.pointer t.2.2]) (T:=28) (by simp) 0
   clear hSm hb2
   by_cases hm0:x.m=0
   ·have h0:isg x.m=0:=qM.2 hm0
    rw[h0]
    have hSu:=qQ HU2.out
    have HMz:=jH hm0
    clear h0 hm0
    go_wp2_with fail
    refine hSu.mono ?_
    rintro e w3 ⟨rfl,hb3⟩
    have HB4:=jH (Below.trans' HB3.out hb3.out)
    have HH3:=jH (HH2.out.below hb3.out)
    have HV3:=jH (HV2.out.below hb3.out)
    have c1:=HH3.out.cell (b:=W1.heap.size) (c:=#[.pointer t.1,.pointer t.2.1,.pointer t.2.2]) (T:=28) (by simp) 1
    clear hSu hb3
    by_cases hu0:x.u=0
    ·have h0:isg x.u=0:=qM.2 hu0
     rw[h0]
     have HUz:=jH hu0
     clear h0 hu0
     go_wp2_with fail
     go_ret
     refine⟨?_,HB4⟩
     show Ending.returned (Value.bool true)=_
     simp[pinB,hnd,hb,HMz.out,HUz.out]
    ·have h0:isg x.u≠0:=fun h=>hu0 (qM.1 h)
     have HUz:=jH hu0
     have hd:decide (isg x.u=0)=false:=by simp[h0]
     have hSv:=qQ HV3.out
     clear hu0
     go_wp2_with fail
     refine hSv.mono ?_
     rintro e w4 ⟨rfl,hb4⟩
     have HB5:=jH (Below.trans' HB4.out hb4.out)
     clear hSv hb4
     go_wp2_with fail
     go_ret
     refine⟨?_,HB5⟩
     show Ending.returned (Value.bool (isg x.u==0||decide (0≤isg x.v)))=_
     have:0≤isg x.v↔0≤x.v:=by unfold isg; split <;>(try split) <;>omega
     simp[pinB,hnd,hb,HMz.out,HUz.out,this,qM]
   ·have h0:isg x.m≠0:=fun h=>hm0 (qM.1 h)
    have HMz:=jH hm0
    have hd:decide (isg x.m=0)=false:=by simp[h0]
    clear hm0
    go_wp2_with fail
    go_ret
    refine⟨?_,HB3⟩
    show Ending.returned (Value.bool false)=_
    simp[pinB,hnd,hb,HMz.out]
  ·have hb1:decide ((c.toNat:Int)=98)=false:=by
    simp only[decide_eq_false_iff_not];intro h; exact hb (UInt8.toNat_inj.1 (by show _=98; omega))
   have hb2:((c.toNat:Int)==98)=false:=by simpa using hb1
   have hSu:=qQ HU.out
   go_wp2_with fail
   refine hSu.mono ?_
   rintro e w2 ⟨rfl,hb2⟩
   have HB3:=jH (Below.trans' HB2.out hb2.out)
   clear hSu hb2
   go_wp2_with fail
   go_ret
   refine⟨?_,HB3⟩
   show Ending.returned (Value.bool (isg x.u==0))=_
   congr 2
   rw[Bool.eq_iff_iff]
   simp[pinB,hcd,hb,qM]
def powE (c:UInt8)(x:E3): Int:=if c=98 then shx x.u x.v else x.m
def PN (ok:Prop)(z:Int)(W:World)(e:Ending)(W':World): Prop:=(ok∧∃ q,e=.returned (.agg #[.pointer q])∧Hid (IsN W' (.agg #[.pointer q]) z)∧Hid (Below W.heap.size W W'))∨(¬ ok∧e=pan 5∧Hid (Below W.heap.size W W'))
theorem power_any {B:Nat}{W:World}{p:Nat}{ov gv:Value}{l:List Q3}{o:List UInt8}{G:List E3}(h:Rd B W p ov gv l o G){i:Nat}{c:UInt8}{x:E3}(hc:o[i]? = some c)(hx:G[i+1]? = some x)(hl:o.length≤1000000)(hgl:G.length=o.length+1) 
 (hok:c=98→(x.u=0∨0≤x.v)) :
 Calls Tryz.prog 67 #[.pointer (some ⟨p,0,none⟩),.int .i64 i] W (PN (allowed (powE c x)) (powE c x) W):=by
 obtain⟨ob,oc,rfl,hby⟩:=h.byte hc
 obtain⟨gb,gc,t,rfl,ht,hie,g0,g1,g2⟩:=h.el hx
 have a0:=h.c0
 have a1:=h.c1
 have bc:=hby hc
 have hi:i<o.length:=(jL hc).1
 have i1:((i:Int)+1).toNat=i+1:=by omega
 have i2:(0:Int)≤(i:Int)+1:=by omega
 have i4:((i:Int)+1)<(G.length:Int):=by omega
 have i5:(i:Int)<(o.length:Int):=by omega
 have i6:((i:Int)).toNat=i:=by omega
 have w1:IntKind.i64.wrap ((i:Int)+1)=(i:Int)+1:=by rw[IntKind.wrap_i64];omega
 have HR:=jH h
 have HE:=jH hie
 have HOK:=jH hok
 clear hby h hie hok
 have lp:=jg a0
 have np:p≠W.heap.size:=Nat.ne_of_lt lp
 have lb:=jg bc
 have nb:ob≠W.heap.size:=Nat.ne_of_lt lb
 have lg:=jg g0
 have ng:gb≠W.heap.size:=Nat.ne_of_lt lg
 have np1:p≠W.heap.size+1:=by omega
 have nb1:ob≠W.heap.size+1:=by omega
 have ng1:gb≠W.heap.size+1:=by omega
 obtain⟨W2,hW2⟩:∃ W2,W2=(W.alloc (.cells #[.pointer none] 26)).alloc (.cells #[.pointer t.1,.pointer t.2.1,.pointer t.2.2] 28):=⟨_,rfl⟩
 have HW2:=jH hW2
 have HB2:Hid (Below W.heap.size W W2):=by show Below _ _ _; rw[hW2];exact ((Below.refl _ _).alloc (jR _) _).alloc (by simp) _
 have HH:Hid (Has W2 [(W.heap.size+1,#[.pointer t.1,.pointer t.2.1,.pointer t.2.2],28),(W.heap.size,#[.pointer none],26)]):=by
  show Has _ _
  have h:=((Has.nil W).add #[.pointer none] 26).add #[.pointer t.1,.pointer t.2.1,.pointer t.2.2] 28
  rw[jY] at h
  rw[hW2];exact h
 obtain⟨hu,hv,hm⟩:=HE.out.parts
 have HU:=jH (hu.below HB2.out)
 have HV:=jH (hv.below HB2.out)
 have HM:=jH (hm.below HB2.out)
 clear hu hv hm hW2
 go_enter Tryz.func67,Tryz.ntmps67
 by_cases hb:c=98
 ·have hb1:(c.toNat:Int)=98:=by rw[hb];rfl
  have HC:Hid (c=98):=hb
  clear hb
  have hSh:=z6 HU.out HV.out
  go_wp2_with fail
  rw[show (W.alloc (.cells #[.pointer none] 26)).alloc (.cells #[.pointer t.1,.pointer t.2.1,.pointer t.2.2] 28)=W2 from HW2.out.symm]
  refine hSh.mono ?_
  rintro e wa ⟨q3,er,rfl,hba,hra⟩
  have HIA:Hid (NR wa (powE c x) (.agg #[.pointer q3]) er):=by
   show NR _ _ _ _
   unfold powE; rw[if_pos HC.out]
   rcases hra.out with h | h
   ·exact h.2
   ·refine absurd ?_ h.1
    rcases HOK.out HC.out with h0 | h0
    ·intro e he; rw[h0,exps,j5] at he; simp at he
    ·exact zM h0
  have hmu:=qV (W:=wa) q3 er
  have HBA:=jH (Below.trans' HB2.out hba.out)
  have HHA:=jH (HH.out.below hba.out)
  clear hSh hra hba
  go_wp2_with fail
  refine hmu.mono ?_
  rintro e wb ⟨⟨he,rfl⟩ | ⟨he,rfl⟩,hbb⟩
  rotate_left
  ·have hz:=HIA.out.er.2 he
   rw[hz.2]
   refine And.intro rfl ?_
   exact Or.inr ⟨hz.1,rfl,Below.trans' HBA.out hbb.out⟩
  have HBB:=jH (Below.trans' HBA.out hbb.out)
  have HIB:=jH ((HIA.out.er.1 he).2.below hbb.out)
  have HAB:=jH (HIA.out.er.1 he).1
  clear he
  have Y:=jH ((HHA.out.below hbb.out) (W.heap.size,#[.pointer none],26) (by simp))
  have d0:=jB Y.out 0
  have f0:=jF Y.out 0
  clear hmu hbb
  go_wp2_with fail
  refine bodyPost_ret (v:=.agg #[.pointer q3]) (by simp[results,Tryz.results67,go_sem,d0]) rfl ?_
  refine .inl ⟨HAB.out,q3,rfl,?_,HBB.out.setCell (jR _) _⟩
  show IsN _ _ _
  exact HIB.out.setCell Y.out (by decide) _
 ·have hb1:decide ((c.toNat:Int)=98)=false:=by
   simp only[decide_eq_false_iff_not];intro h; exact hb (UInt8.toNat_inj.1 (by show _=98; omega))
  have hb2:((c.toNat:Int)==98)=false:=by simpa using hb1
  go_wp2_with fail
  have HB3:Below W.heap.size W ((W.alloc (.cells #[.pointer t.2.2] 26)).alloc (.cells #[.pointer t.1,.pointer t.2.1,.pointer t.2.2] 28)):=((Below.refl _ _).alloc (jR _) _).alloc (by simp) _
  refine bodyPost_ret (v:=.agg #[.pointer t.2.2]) (by simp[results,Tryz.results67,go_sem]) rfl ?_
  have hpw:powE c x=x.m:=by unfold powE; rw[if_neg hb]
  refine .inl ⟨?_,t.2.2,rfl,?_,HB3⟩
  ·rw[hpw];exact HE.out.parts.2.2.1
  show IsN _ _ _
  rw[hpw]
  exact HE.out.parts.2.2.below HB3
section
variable {B p g n cap i:Nat} {w w':World} {ov:Value} {l:List Q3} {G:List E3}
theorem Rd.freeG {o:List UInt8}(h:Rd B w p ov (.slice (some ⟨g,0,none⟩) n cap) l o G)(j:Nat): w.frozen? ⟨g,j,none⟩=false:=by
 obtain⟨hl,⟨hh,-⟩ | ⟨g',cap',cur,he,-,hg,-,-,-,hx⟩⟩:=h.row
 ·cases hh
 ·cases he; exact jF hg j
theorem jQ {W:World}(h:Below W.heap.size W w){b o:Nat}{v:Value}(hc:W.cell? ⟨b,o,none⟩=some v): w.cell? ⟨b,o,none⟩=some v:=by
 have hb:=h.block b (jg hc)
 rw[← hc];simp only[World.cell?,hb]
theorem qZ {e:TypeId}{s:Nat}{v:Value}{xs:List Value}(h:w.ownsRow 0 e s v n xs)(hk:∀ (g:Nat) (cur:Array Value),w.heap[g]? = some (.cells cur e (0,0))→w'.heap[g]? = w.heap[g]?): w'.ownsRow 0 e s v n xs:=by
 obtain⟨hl,h | ⟨g,cap,cur,he,h0,hg,h1,h2,h3,hx⟩⟩:=h
 ·exact⟨hl,.inl h⟩
 ·exact⟨hl,.inr ⟨g,cap,cur,he,h0,(hk g cur hg).trans hg,h1,h2,h3,hx⟩⟩
theorem IsE.kept {w w':World}{V:Value}{x:E3}(h:IsE w V x)(hk:∀ (b:Nat) (c:Array Value) (T:TypeId),w.heap[b]? = some (.cells c T (0,0))→(T=158∨T=111∨T=154)→w'.heap[b]? = w.heap[b]?): IsE w' V x:=by
 obtain⟨a,b,c,h0,h1,h2,h3⟩:=h
 exact⟨a,b,c,h0,h1.kept hk,h2.kept hk,h3.kept hk⟩
theorem yR {e:TypeId}{s:Nat}{xs:List Value}(h:w.ownsRow 0 e s (.slice (some ⟨g,0,none⟩) n cap) n xs): ∃ cur,w.heap[g]? = some (.cells cur e (0,0))∧n≤cap∧cap≤maxLen∧cur.size=cap*s∧cur.toList.take xs.length=xs∧xs.length=n*s:=by
 obtain⟨hl,⟨hh,-⟩ | ⟨g',cap',cur,he,h0,hg,h1,h2,h3,hx⟩⟩:=h
 ·cases hh
 ·cases he; exact⟨cur,hg,h1,h2,h3,by first | exact hx | (rw[hl];exact hx),hl⟩
theorem Rd.kept {B:Nat}{w w':World}{p:Nat}{ov gv:Value}{l:List Q3}{o:List UInt8}{G:List E3}(h:Rd B w p ov gv l o G) 
 (hk:∀ (b:Nat) (c:Array Value) (T:TypeId),w.heap[b]? = some (.cells c T (0,0))→(T=158∨T=111∨T=154∨T=152∨T=5∨T=28∧b∈gv.ownBlock)→w'.heap[b]? = w.heap[b]?):Rd B w' p ov gv l o G:={
 obj:=(hk _ _ _ h.obj (by simp)).trans h.obj
 out:=qZ h.out fun g cur hg=>hk _ _ _ hg (by simp)
 row:=by
  obtain⟨hl,h1 | ⟨g,cap,cur,he,h0,hg,h1,h2,h3,hx⟩⟩:=h.row
  ·exact⟨hl,.inl h1⟩
  ·exact⟨hl,.inr ⟨g,cap,cur,he,h0,(hk g cur _ hg (by rw[he];simp[Value.ownBlock])).trans hg,h1,h2,h3,hx⟩⟩
 len:=h.len
 els:=fun i t x h1 h2=>(h.els i t x h1 h2).kept fun b c T hb hT=>hk b c T hb (by rcases hT with h | h | h <;>simp[h])
 hp:=h.hp,ho:=h.ho,hg:=h.hg }
theorem qcl_set {t:Q3}(hi:i<l.length): (qcl l).take (i*3)++[.pointer t.1,.pointer t.2.1,.pointer t.2.2]++(qcl l).drop (i*3+3)=qcl (l.set i t):=by
 rw[qcl_take,show i*3+3=(i+1)*3 by omega,qcl_drop,List.set_eq_take_append_cons_drop,if_pos hi,qcl_append,qcl_cons,List.append_assoc]
theorem Rd.put {o:List UInt8}(h:Rd B w p ov (.slice (some ⟨g,0,none⟩) n cap) l o G){t:Q3}{x:E3}(hi:i<l.length)(hx:IsE w (qv t) x):
 Rd B (((w.setCell ⟨g,i*3,none⟩ (.pointer t.1)).setCell ⟨g,i*3+1,none⟩ (.pointer t.2.1)).setCell ⟨g,i*3+2,none⟩ (.pointer t.2.2)) p ov (.slice (some ⟨g,0,none⟩) n cap) (l.set i t) o (G.set i x):=by
 have hr:=h.row
 obtain⟨g',cap',hv,hc1,hc2⟩:=zr hr (by omega)
 cases hv
 obtain⟨cur,hg,h1,h2,h3,h4,h5⟩:=yR hr
 have hln:=qcl_len l
 obtain⟨cur',k1,k2⟩:=zC (g:=g) (T:=28) [.pointer t.1,.pointer t.2.1,.pointer t.2.2] (i*3) w cur hg (by simp; omega)
 have k1':(((w.setCell ⟨g,i*3,none⟩ (.pointer t.1)).setCell ⟨g,i*3+1,none⟩ (.pointer t.2.1)).setCell ⟨g,i*3+2,none⟩ (.pointer t.2.2)).heap[g]? = some (.cells cur' 28 (0,0)):=k1
 have hne:∀ b,b≠g→(((w.setCell ⟨g,i*3,none⟩ (.pointer t.1)).setCell ⟨g,i*3+1,none⟩ (.pointer t.2.1)).setCell ⟨g,i*3+2,none⟩ (.pointer t.2.2)).heap[b]? = w.heap[b]?:=fun b hb =>
  (jS _ _ _ _ hb).trans ((jS _ _ _ _ hb).trans (jS _ _ _ _ hb))
 generalize ((w.setCell ⟨g,i*3,none⟩ (.pointer t.1)).setCell ⟨g,i*3+1,none⟩ (.pointer t.2.1)).setCell ⟨g,i*3+2,none⟩ (.pointer t.2.2)=w' at k1 k1' hne ⊢
 clear k1
 have hkk:∀ (b:Nat) (c:Array Value) (T:TypeId),w.heap[b]? = some (.cells c T (0,0))→T≠28→w'.heap[b]? = w.heap[b]?:=fun b c T hb hT=>hne b (jI hb hg hT)
 have hke:∀ {V:Value} {z:E3},IsE w V z→IsE w' V z:=fun hz=>hz.kept fun b c T hb hT=>hkk b c T hb (by rcases hT with h | h | h <;>subst h <;>decide)
 have hcl:cur.toList.length=cur.size:=by simp
 have hq:cur'.toList.take (qcl (l.set i t)).length=qcl (l.set i t):=by
  have e1:(qcl (l.set i t)).length=(qcl l).length:=by rw[qcl_len,qcl_len,List.length_set]
  rw[e1,k2,← qcl_set hi]
  conv=>rhs; rw[← h4]
  have a1:((cur.toList.take (i*3))++[Value.pointer t.1,.pointer t.2.1,.pointer t.2.2]).length=i*3+3:=by simp; omega
  rw[List.take_append,a1,List.take_of_length_le (by rw[a1];omega),List.take_take,List.drop_take,show min (i*3) (qcl l).length=i*3 by omega]
  rfl
 have hl0:=h.len
 exact {
  obj:=(hkk _ _ _ h.obj (by decide)).trans h.obj
  out:=qZ h.out fun b cur hb=>hkk _ _ _ hb (by decide)
  row:=by
   rw[List.length_set]
   refine⟨by rw[qcl_len,List.length_set],.inr ⟨g,cap,cur',rfl,Nat.zero_le _,k1',h1,h2,?_,?_⟩⟩
   ·have:=congrArg List.length k2
    simp at this
    rw[this];omega
   ·have e2:(qcl (l.set i t)).length=l.length*3:=by rw[qcl_len,List.length_set]
    first | exact hq | (rw[← e2];exact hq)
  len:=by rw[List.length_set,List.length_set];exact hl0
  els:=fun k u z hu hz=>by
   rw[List.getElem?_set] at hu hz
   by_cases hki:i=k
   ·rw[if_pos hki,if_pos (by omega)] at hu hz
    cases hu; cases hz; exact hke hx
   ·rw[if_neg hki] at hu hz
    exact hke (h.els k u z hu hz)
  hp:=h.hp,ho:=h.ho,hg:=h.hg }
theorem Rd.cutG {n':Nat}{o:List UInt8}(h:Rd B w p ov (.slice (some ⟨g,0,none⟩) n cap) l o G)(hf:Fr [g] w w'){j:Nat}(hij:i≤j)(hj:j≤l.length) 
 (hr:w'.ownsRow 0 28 3 (.slice (some ⟨g,0,none⟩) n' cap) n' ((qcl l).take (i*3)++(qcl l).drop (j*3))) :
 Rd B (w'.setCell ⟨p,1,none⟩ (.slice (some ⟨g,0,none⟩) n' cap)) p ov (.slice (some ⟨g,0,none⟩) n' cap) (l.take i++l.drop j) o (G.take i++G.drop j):=by
 obtain⟨cur,hg,-⟩:∃ cur,w.heap[g]? = some (.cells cur 28 (0,0))∧True:=by
  obtain⟨hl,⟨hh,-⟩ | ⟨g',cap',cur,he,-,hg,-⟩⟩:=h.row
  ·cases hh
  ·cases he; exact⟨cur,hg,trivial⟩
 have hk:∀ (b:Nat) (c:Array Value) (T:TypeId),w.heap[b]? = some (.cells c T (0,0))→T≠28→w'.heap[b]? = w.heap[b]?:=fun b c T hb hT =>
  hf.block b (jA hb).1 (by simp; exact jI hb hg hT)
 have ho1:w'.heap[p]? = some (.cells #[ov,.slice (some ⟨g,0,none⟩) n cap] 152 (0,0)):=(hk _ _ _ h.obj (by decide)).trans h.obj
 have hp2:∀ b,b≠p→(w'.setCell ⟨p,1,none⟩ (.slice (some ⟨g,0,none⟩) n' cap)).heap[b]? = w'.heap[b]?:=fun b hb=>jS _ _ _ _ hb
 have hke:∀ {V:Value} {z:E3},IsE w V z→IsE (w'.setCell ⟨p,1,none⟩ (.slice (some ⟨g,0,none⟩) n' cap)) V z:=fun hz=>hz.kept fun b c T hb hT=>by
  have hT2:T≠28∧T≠152:=by rcases hT with h | h | h <;>subst h <;>decide
  rw[hp2 b (jI ((hk _ _ _ hb hT2.1).trans hb) ho1 hT2.2)]
  exact hk _ _ _ hb hT2.1
 have hlen:=h.len
 have hrow:(qcl l).take (i*3)++(qcl l).drop (j*3)=qcl (l.take i++l.drop j):=by rw[qcl_take,qcl_drop,qcl_append]
 rw[hrow] at hr
 have hn':n'=(l.take i++l.drop j).length:=by
  have h1:=hr.1
  rw[qcl_len] at h1; omega
 exact {
  obj:=heap_setCell_same w' p 1 _ 152 _ ho1
  out:=qZ h.out fun b cur hb=>by rw[hp2 b (jI ((hk _ _ _ hb (by decide)).trans hb) ho1 (by decide))];exact hk _ _ _ hb (by decide)
  row:=by
   rw[← hn']
   refine qZ hr fun b cur hb=>hp2 b (jI hb ho1 (by decide))
  len:=by simp[hlen]
  els:=fun k u z hu hz=>by
   rw[List.getElem?_append] at hu hz
   rw[List.length_take] at hu hz
   rw[← hlen] at hz
   split at hu
   ·rename_i hlt
    rw[if_pos hlt] at hz
    rw[List.getElem?_take_of_lt (by omega)] at hu hz
    exact hke (h.els k u z hu hz)
   ·rename_i hlt
    rw[if_neg hlt] at hz
    rw[List.getElem?_drop] at hu hz
    exact hke (h.els _ u z hu hz)
  hp:=h.hp,ho:=h.ho
  hg:=fun b hb=>h.hg b (by simpa [Value.ownBlock] using hb) }
theorem Rd.cutO {n':Nat}{gv:Value}{o:List UInt8}(h:Rd B w p (.slice (some ⟨g,0,none⟩) n cap) gv l o G)(hf:Fr [g] w w'){j:Nat}(_hij:i≤j)(_hj:j≤o.length) 
 (hr:w'.ownsRow 0 5 1 (.slice (some ⟨g,0,none⟩) n' cap) n' ((o.map fun b=>Value.int .u8 (b.toNat:Nat)).take i++(o.map fun b=>Value.int .u8 (b.toNat:Nat)).drop j)) :
 Rd B (w'.setCell ⟨p,0,none⟩ (.slice (some ⟨g,0,none⟩) n' cap)) p (.slice (some ⟨g,0,none⟩) n' cap) gv l (o.take i++o.drop j) G:=by
 obtain⟨cur,hg,-⟩:∃ cur,w.heap[g]? = some (.cells cur 5 (0,0))∧True:=by
  obtain⟨hl,⟨hh,-⟩ | ⟨g',cap',cur,he,-,hg,-⟩⟩:=h.out
  ·cases hh
  ·cases he; exact⟨cur,hg,trivial⟩
 have hk:∀ (b:Nat) (c:Array Value) (T:TypeId),w.heap[b]? = some (.cells c T (0,0))→T≠5→w'.heap[b]? = w.heap[b]?:=fun b c T hb hT =>
  hf.block b (jA hb).1 (by simp; exact jI hb hg hT)
 have ho1:w'.heap[p]? = some (.cells #[.slice (some ⟨g,0,none⟩) n cap,gv] 152 (0,0)):=(hk _ _ _ h.obj (by decide)).trans h.obj
 have hp2:∀ b,b≠p→(w'.setCell ⟨p,0,none⟩ (.slice (some ⟨g,0,none⟩) n' cap)).heap[b]? = w'.heap[b]?:=fun b hb=>jS _ _ _ _ hb
 have hke:∀ {V:Value} {z:E3},IsE w V z→IsE (w'.setCell ⟨p,0,none⟩ (.slice (some ⟨g,0,none⟩) n' cap)) V z:=fun hz=>hz.kept fun b c T hb hT=>by
  have hT2:T≠5∧T≠152:=by rcases hT with h | h | h <;>subst h <;>decide
  rw[hp2 b (jI ((hk _ _ _ hb hT2.1).trans hb) ho1 hT2.2)]
  exact hk _ _ _ hb hT2.1
 rw[← List.map_take,← List.map_drop,← List.map_append] at hr
 have hn':n'=(o.take i++o.drop j).length:=by
  have h1:=hr.1
  rw[List.length_map] at h1; omega
 exact {
  obj:=heap_setCell_same w' p 0 _ 152 _ ho1
  out:=by
   show World.ownsRow _ _ _ _ _ _ _
   rw[← hn']
   exact qZ hr fun b cur hb=>hp2 b (jI hb ho1 (by decide))
  row:=qZ h.row fun b cur hb=>by rw[hp2 b (jI ((hk _ _ _ hb (by decide)).trans hb) ho1 (by decide))];exact hk _ _ _ hb (by decide)
  len:=h.len
  els:=fun k u z hu hz=>hke (h.els k u z hu hz)
  hp:=h.hp,hg:=h.hg
  ho:=fun b hb=>h.ho b (by simpa [Value.ownBlock] using hb) }
end
end Sr
