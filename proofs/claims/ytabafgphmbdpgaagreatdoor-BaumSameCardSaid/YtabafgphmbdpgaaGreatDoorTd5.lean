/- Texts of this claim, joined: SortC, SortD. -/
import Derived.Test.YtabafgphmbdpgaaGreatDoorTd1
import Derived.Test.YtabafgphmbdpgaaGreatDoorTd4
import Derived.Deep.CutBlock
import Derived.Deep.CutRange
set_option maxHeartbeats 8000000
set_option maxRecDepth 100000
namespace Sr
open Go Go.Proofs Go.RowKit Go.Sort
section
variable {g:FuncId} {fst cb:Array Value} {cf:Nat→Nat→Int} {blk off n:Nat} {Γ:Type} {K:Γ→Array Nat→World→Prop} {Out:Γ→Nat→Prop}
def CPost {Γ:Type}(K:Γ→Array Nat→World→Prop)(Out:Γ→Nat→Prop)(γ:Γ)(w:World)(d:Array Nat)(c s:Nat)(w':World): Prop :=
 ∃ γ' s',s'≤s∧K γ' d w'∧w.heap.size≤w'.heap.size∧(∀ b,Out γ b→b<w.heap.size→Out γ' b∧(b≠c→w'.heap[b]? = w.heap[b]?)) ∧
  Out γ' c∧c<w'.heap.size∧w'.cell? ⟨c,0,none⟩=some (.int .i64 (s':Nat))∧w'.frozen? ⟨c,0,none⟩=false
variable {w w':World} {d:Array Nat} {c s:Nat}
theorem CPost.mono {γ:Γ}{t:Nat}(h:CPost K Out γ w d c s w')(hst:s≤t): CPost K Out γ w d c t w':=by
 obtain⟨γ',s',a,r⟩:=h; exact⟨γ',s',by omega,r⟩
theorem CPost.step {γ γ':Γ}{w1:World}{t:Nat}(h2:w.heap.size≤w1.heap.size)(h3:∀ b,Out γ b→b<w.heap.size→Out γ' b∧(b≠c→w1.heap[b]? = w.heap[b]?)) 
 (k:CPost K Out γ' w1 d c t w'):CPost K Out γ w d c t w':=by
 obtain⟨γ2,s2,k1,k2,k3,k4,k5⟩:=k
 refine⟨γ2,s2,k1,k2,Nat.le_trans h2 k3,fun b hb hl=>?_,k5⟩
 obtain⟨a1,a2⟩:=h3 b hb hl
 obtain⟨b1,b2⟩:=k4 b a1 (Nat.lt_of_lt_of_le hl h2)
 exact⟨b1,fun hne=>(b2 hne).trans (a2 hne)⟩
theorem order2_post (S:SRow Tryz.prog g fst cb cf blk off n Γ K Out){γ:Γ}{w1:World}(h:SPost K Out γ w d w1)(hc:Out γ c)(hlt:c<w.heap.size) 
 (hs:w.cell? ⟨c,0,none⟩=some (.int .i64 s)) (hf:w.frozen? ⟨c,0,none⟩=false) :
 CPost K Out γ w d c s w1∧CPost K Out γ w d c (s+1) (w1.setCell ⟨c,0,none⟩ (.int .i64 ((s:Int)+1)))∧w1.cell? ⟨c,0,none⟩=some (.int .i64 s)∧w1.frozen? ⟨c,0,none⟩=false:=by
 obtain⟨γ',h1,h2,h3⟩:=h
 obtain⟨a1,a2⟩:=h3 c hc hlt
 have c1:w1.cell? ⟨c,0,none⟩=some (.int .i64 s):=(World.cell?_of_block (w:=w) (a:=⟨c,0,none⟩) a2).trans hs
 have f1:w1.frozen? ⟨c,0,none⟩=false:=(World.frozen?_of_block (w:=w) (a:=⟨c,0,none⟩) a2).trans hf
 refine⟨⟨γ',s,jR _,h1,h2,fun b hb hl=>⟨(h3 b hb hl).1,fun _=>(h3 b hb hl).2⟩,a1,by omega,c1,f1⟩,⟨γ',s+1,jR _,S.store h1 c a1 _,by simpa using h2,fun b hb hl=>⟨(h3 b hb hl).1,fun hne=>?_⟩,a1,by simp; omega,?_,?_⟩,c1,f1⟩
 ·rw[jS _ _ _ _ hne];exact (h3 b hb hl).2
 ·rw[World.cell?_setCell_same _ _ _ c1];rfl
 ·rw[World.frozen?_setCell];exact f1
theorem xA (S:SRow Tryz.prog g fst cb cf blk off n Γ K Out)(eg:∀ args w,(callFunc g args).run Tryz.prog w=.ok (.enter g args) w) 
 (w:World) (cap a b c s L U:Nat) (ha:a<U) (hb:b<U) (hLa:L≤a) (hLb:L≤b) (hU:U≤n) (hn:n≤1000000000) (hs:s≤1000) (γ:Γ) (d:Array Nat) (hK:K γ d w) (hc:Out γ c) (hlt:c<w.heap.size)
 (hcs:w.cell? ⟨c,0,none⟩=some (.int .i64 s)) (hf:w.frozen? ⟨c,0,none⟩=false) :
 Calls Tryz.prog 171 #[.slice (some ⟨blk,off,none⟩) n cap,.int .i64 a,.int .i64 b,.pointer (some ⟨c,0,none⟩),.func (.func g) fst cb] w fun e w' =>
  ∃ x y:Nat,x<U∧y<U∧L≤x∧L≤y∧e=.returned (.tuple #[.int .i64 x,.int .i64 y])∧Hid (CPost K Out γ w d c (s+1) w'):=by
 have H0:SPost K Out γ w d w:=SPost.refl hK
 have HP:Hid (∀ w1,SPost K Out γ w d w1→_):=fun w1 h=>order2_post S h hc hlt hcs hf
 have c1:=S.pcell H0 b (by omega)
 have c2:=S.pcell H0 a (by omega)
 have HC:=S.pcmp H0 b a (by omega) (by omega)
 clear hcs hf hK H0
 have e1:((b:Int):Int).toNat=b:=by omega
 have p1:(0:Int)≤(b:Int):=by omega
 have b1:((b:Int):Int)<(n:Int):=by omega
 have w1:IntKind.i64.wrap ((b:Int):Int)=(b:Int):=by rw[IntKind.wrap_i64];omega
 have e2:((a:Int):Int).toNat=a:=by omega
 have p2:(0:Int)≤(a:Int):=by omega
 have b2:((a:Int):Int)<(n:Int):=by omega
 have w2:IntKind.i64.wrap ((a:Int):Int)=(a:Int):=by rw[IntKind.wrap_i64];omega
 have w3:IntKind.i64.wrap ((s:Int)+1:Int)=(s:Int)+1:=by rw[IntKind.wrap_i64];omega
 go_enter Tryz.func171,Tryz.ntmps171
 go_wp2_with fail
 go_still_tail 9,(by kernel_rfl)
 change wpList _ _ _ _ _ w.drew
 go_wp2_with fail
 refine HC.mono ?_
 rintro e w' ⟨rfl,H3⟩
 clear HC c1 c2
 obtain⟨q1,q2,c3,f3⟩:=HP.out w' H3.out
 have Q1:Hid _:=q1
 have Q2:Hid _:=q2
 clear q1 q2 HP H3
 go_wp2_with fail
 ·go_ret2
  exact⟨b,a,hb,ha,hLb,hLa,rfl,Q2⟩
 ·go_ret2
  exact⟨a,b,ha,hb,hLa,hLb,rfl,CPost.mono Q1.out (by omega)⟩
theorem qo {γ:Γ}(h:CPost K Out γ w d c s w'): ∃ (γ':Γ) (s':Nat),s'≤s∧K γ' d w'∧Out γ' c∧c<w'.heap.size∧w'.cell? ⟨c,0,none⟩=some (.int .i64 (s':Nat))∧w'.frozen? ⟨c,0,none⟩=false ∧
 ∀ (w2:World) (t:Nat),CPost K Out γ' w' d c t w2→CPost K Out γ w d c t w2:=by
 obtain⟨γ',s',h0,h1,h2,h3,h4,h5,h6,h7⟩:=h
 exact⟨γ',s',h0,h1,h4,h5,h6,h7,fun w2 t k=>CPost.step h2 h3 k⟩
theorem xB (S:SRow Tryz.prog g fst cb cf blk off n Γ K Out)(eg:∀ args w,(callFunc g args).run Tryz.prog w=.ok (.enter g args) w) 
 (w:World) (cap a b m c s L U:Nat) (ha:a<U) (hb:b<U) (hm:m<U) (hLa:L≤a) (hLb:L≤b) (hLm:L≤m) (hU:U≤n) (hn:n≤1000000000) (hs:s≤990) (γ:Γ) (d:Array Nat) (hK:K γ d w) (hc:Out γ c) (hlt:c<w.heap.size)
 (hcs:w.cell? ⟨c,0,none⟩=some (.int .i64 s)) (hf:w.frozen? ⟨c,0,none⟩=false) :
 Calls Tryz.prog 165 #[.slice (some ⟨blk,off,none⟩) n cap,.int .i64 a,.int .i64 b,.int .i64 m,.pointer (some ⟨c,0,none⟩),.func (.func g) fst cb] w fun e w' =>
  ∃ x:Nat,x<U∧L≤x∧e=.returned (.int .i64 x)∧Hid (CPost K Out γ w d c (s+3) w'):=by
 have O1:=xA S eg w cap a b c s L U ha hb hLa hLb hU hn (by omega) γ d hK hc hlt hcs hf
 clear hcs hf hK
 go_enter Tryz.func165,Tryz.ntmps165
 go_wp2_with fail
 refine O1.mono ?_
 rintro e w1 ⟨x1,y1,hx1,hy1,hX1,hY1,rfl,H1⟩
 clear O1
 obtain⟨γ1,s1,hs1,hK1,hO1,hl1,hc1,hf1,hn1⟩:=qo H1.out
 have O2:=xA S eg w1 cap y1 m c s1 L U hy1 hm hY1 hLm hU hn (by omega) γ1 d hK1 hO1 hl1 hc1 hf1
 have N1:Hid _:=hn1
 clear hn1 hc1 hf1 hK1 H1
 go_wp2_with fail
 refine O2.mono ?_
 rintro e w2 ⟨x2,y2,hx2,hy2,hX2,hY2,rfl,H2⟩
 clear O2
 obtain⟨γ2,s2,hs2,hK2,hO2,hl2,hc2,hf2,hn2⟩:=qo H2.out
 have O3:=xA S eg w2 cap x1 x2 c s2 L U hx1 hx2 hX1 hX2 hU hn (by omega) γ2 d hK2 hO2 hl2 hc2 hf2
 have N2:Hid _:=hn2
 clear hn2 hc2 hf2 hK2 H2
 go_wp2_with fail
 refine O3.mono ?_
 rintro e w3 ⟨x3,y3,hx3,hy3,hX3,hY3,rfl,H3⟩
 clear O3
 go_wp2_with fail
 go_ret
 exact⟨y3,hy3,hY3,rfl,CPost.mono (N1.out _ _ (N2.out _ _ H3.out)) (by omega)⟩
theorem zF (S:SRow Tryz.prog g fst cb cf blk off n Γ K Out)(eg:∀ args w,(callFunc g args).run Tryz.prog w=.ok (.enter g args) w) 
 (w:World) (cap a c s L U:Nat) (ha:a+1<U) (hLa:L+1≤a) (hU:U≤n) (hn:n≤1000000000) (hs:s≤990) (γ:Γ) (d:Array Nat) (hK:K γ d w) (hc:Out γ c) (hlt:c<w.heap.size)
 (hcs:w.cell? ⟨c,0,none⟩=some (.int .i64 s)) (hf:w.frozen? ⟨c,0,none⟩=false) :
 Calls Tryz.prog 164 #[.slice (some ⟨blk,off,none⟩) n cap,.int .i64 a,.pointer (some ⟨c,0,none⟩),.func (.func g) fst cb] w fun e w' =>
  ∃ x:Nat,x<U∧L≤x∧e=.returned (.int .i64 x)∧Hid (CPost K Out γ w d c (s+3) w'):=by
 obtain⟨q,rfl⟩:∃ q,a=q+1:=⟨a - 1,by omega⟩
 have O1:=xB S eg w cap q (q+1) (q+1+1) c s L U (by omega) (by omega) (by omega) (by omega) (by omega) (by omega) hU hn (by omega) γ d hK hc hlt hcs hf
 clear hcs hf hK
 go_enter Tryz.func164,Tryz.ntmps164
 go_wp2_with fail
 refine O1.mono ?_
 rintro e w1 ⟨x1,hx1,hX1,rfl,H1⟩
 clear O1
 go_wp2_with fail
 go_ret
 exact⟨x1,hx1,hX1,rfl,H1⟩
theorem sr_cnt (S:SRow Tryz.prog g fst cb cf blk off n Γ K Out){γ:Γ}(hK:K γ d w)(T:TypeId): CPost K Out γ w d w.heap.size 0 (w.alloc (.cells #[.int .i64 0] T)):=by
 obtain⟨h1,h2⟩:=S.alloc hK (.cells #[.int .i64 0] T)
 exact⟨γ,0,jR _,h1,by simp,fun b hb hl=>⟨hb,fun _=>RowKit.Below.heap_alloc _ _ _ hl⟩,h2,by simp,by simp,by simp⟩
theorem cpost_out {γ:Γ}(h:CPost K Out γ w d w.heap.size s w'): SPost K Out γ w d w':=by
 obtain⟨γ',s',_,h1,h2,h3,_⟩:=h
 exact⟨γ',h1,h2,fun c hc hl=>⟨(h3 c hc hl).1,(h3 c hc hl).2 (by omega)⟩⟩
theorem choosePivot_calls (S:SRow Tryz.prog g fst cb cf blk off n Γ K Out)(eg:∀ args w,(callFunc g args).run Tryz.prog w=.ok (.enter g args) w) 
 (w:World) (cap a b:Nat) (hab:a+12<b) (hb:b≤n) (hn:n≤1000000000) (γ:Γ) (d:Array Nat) (hK:K γ d w) :
 Calls Tryz.prog 149 #[.slice (some ⟨blk,off,none⟩) n cap,.int .i64 a,.int .i64 b,.func (.func g) fst cb] w fun e w' =>
  ∃ (x:Nat) (h:Int),a≤x∧x<b∧0≤h∧h≤2∧e=.returned (.tuple #[.int .i64 x,.int .i64 h])∧Hid (SPost K Out γ w d w'):=by
 obtain⟨l,hl1,hl2⟩:∃ l,b≤a+l∧a+l≤b:=⟨b - a,by omega,by omega⟩
 obtain⟨i0,hi1,hi2⟩:∃ i0,a+l / 4≤i0∧i0≤a+l / 4:=⟨_,jR _,jR _⟩
 obtain⟨j0,hj1,hj2⟩:∃ j0,a+l / 4*2≤j0∧j0≤a+l / 4*2:=⟨_,jR _,jR _⟩
 obtain⟨k0,hk1,hk2⟩:∃ k0,a+l / 4*3≤k0∧k0≤a+l / 4*3:=⟨_,jR _,jR _⟩
 have H0:Hid (CPost K Out γ w d w.heap.size 0 (w.alloc (.cells #[.int .i64 0] 3))):=sr_cnt S hK 3
 clear hK
 by_cases h50:50≤l
 ·have h50z:50≤(b:Int) - a:=by omega
  go_enter Tryz.func149,Tryz.ntmps149
  go_wp2_with fail
  rw[show ((a:Int)+(↑b - ↑a) / 4)=(i0:Int) from by omega,show ((a:Int)+(↑b - ↑a) / 4*2)=(j0:Int) from by omega,show ((a:Int)+(↑b - ↑a) / 4*3)=(k0:Int) from by omega]
  obtain⟨γ1,s1,hs1,hK1,hO1,hl1,hc1,hf1,hn1⟩:=qo H0.out
  have O2:=zF S eg _ cap i0 w.heap.size s1 a b (by omega) (by omega) hb hn (by omega) γ1 d hK1 hO1 hl1 hc1 hf1
  have N1:Hid _:=hn1
  clear hn1 hK1 hc1 hf1 H0
  refine O2.mono ?_
  rintro e w2 ⟨x2,hx2,hX2,rfl,H2⟩
  clear O2
  go_wp2_with fail
  obtain⟨γ2,s2,hs2,hK2,hO2,hl2,hc2,hf2,hn2⟩:=qo H2.out
  have O3:=zF S eg _ cap j0 w.heap.size s2 a b (by omega) (by omega) hb hn (by omega) γ2 d hK2 hO2 hl2 hc2 hf2
  have N2:Hid _:=hn2
  clear hn2 hK2 hc2 hf2 H2
  refine O3.mono ?_
  rintro e w3 ⟨x3,hx3,hX3,rfl,H3⟩
  clear O3
  go_wp2_with fail
  obtain⟨γ3,s3,hs3,hK3,hO3,hl3,hc3,hf3,hn3⟩:=qo H3.out
  have O4:=zF S eg _ cap k0 w.heap.size s3 a b (by omega) (by omega) hb hn (by omega) γ3 d hK3 hO3 hl3 hc3 hf3
  have N3:Hid _:=hn3
  clear hn3 hK3 hc3 hf3 H3
  refine O4.mono ?_
  rintro e w4 ⟨x4,hx4,hX4,rfl,H4⟩
  clear O4
  go_wp2_with fail
  obtain⟨γ4,s4,hs4,hK4,hO4,hl4,hc4,hf4,hn4⟩:=qo H4.out
  have O5:=xB S eg _ cap x2 x3 x4 w.heap.size s4 a b hx2 hx3 hx4 hX2 hX3 hX4 hb hn (by omega) γ4 d hK4 hO4 hl4 hc4 hf4
  have N4:Hid _:=hn4
  clear hn4 hK4 hc4 hf4 H4
  refine O5.mono ?_
  rintro e w5 ⟨x5,hx5,hX5,rfl,H5⟩
  clear O5
  have H6:Hid (SPost K Out γ w d w5):=cpost_out (N1.out _ _ (N2.out _ _ (N3.out _ _ (N4.out _ _ H5.out))))
  obtain⟨γ5,s5,hs5,hK5,hO5,hl5,hc5,hf5,hn5⟩:=qo H5.out
  clear hn5 hK5 hf5 H5 N1 N2 N3 N4
  go_wp2_with fail
  all_goals (refine bodyPost_ret (results_tmp2 rfl _ _ _) rfl ?_)
  ·exact⟨x5,1,by omega,by omega,by omega,by omega,rfl,H6⟩
  ·exact⟨x5,2,by omega,by omega,by omega,by omega,rfl,H6⟩
  ·exact⟨x5,0,by omega,by omega,by omega,by omega,rfl,H6⟩
 ·have h50z:(b:Int) - a<50:=by omega
  go_enter Tryz.func149,Tryz.ntmps149
  go_wp2_with fail
  rw[show ((a:Int)+(↑b - ↑a) / 4)=(i0:Int) from by omega,show ((a:Int)+(↑b - ↑a) / 4*2)=(j0:Int) from by omega,show ((a:Int)+(↑b - ↑a) / 4*3)=(k0:Int) from by omega]
  obtain⟨γ4,s4,hs4,hK4,hO4,hl4,hc4,hf4,hn4⟩:=qo H0.out
  have O5:=xB S eg _ cap i0 j0 k0 w.heap.size s4 a b (by omega) (by omega) (by omega) (by omega) (by omega) (by omega) hb hn (by omega) γ4 d hK4 hO4 hl4 hc4 hf4
  have N4:Hid _:=hn4
  clear hn4 hK4 hc4 hf4 H0
  refine O5.mono ?_
  rintro e w5 ⟨x5,hx5,hX5,rfl,H5⟩
  clear O5
  have H6:Hid (SPost K Out γ w d w5):=cpost_out (N4.out _ _ H5.out)
  obtain⟨γ5,s5,hs5,hK5,hO5,hl5,hc5,hf5,hn5⟩:=qo H5.out
  clear hn5 hK5 hf5 H5 N4
  go_wp2_with fail
  all_goals (refine bodyPost_ret (results_tmp2 rfl _ _ _) rfl ?_)
  ·exact⟨x5,1,by omega,by omega,by omega,by omega,rfl,H6⟩
  ·exact⟨x5,0,by omega,by omega,by omega,by omega,rfl,H6⟩
end
section
variable {g:FuncId} {fst cb:Array Value} {cf:Nat→Nat→Int} {blk off n:Nat} {Γ:Type} {K:Γ→Array Nat→World→Prop} {Out:Γ→Nat→Prop}
theorem scanUp_go {p:Nat→Bool}{d:Array Nat}{j i:Nat}(h:i≤j)(hp:p d[i]! = true): scanUp p d j i=scanUp p d j (i+1):=by
 conv=>lhs; rw[scanUp]
 simp[h,hp]
theorem zY {p:Nat→Bool}{d:Array Nat}{j i:Nat}(h:i≤j→p d[i]! = false): scanUp p d j i=i:=by
 rw[scanUp]
 by_cases hi:i≤j
 ·simp[hi,h hi]
 ·simp[hi]
theorem scanDown_go {p:Nat→Bool}{d:Array Nat}{j i:Nat}(h:i≤j+1)(hp:p d[j+1]! = true): scanDown p d i (j+1)=scanDown p d i j:=by
 conv=>lhs; rw[scanDown]
 simp[h,hp]
theorem zB {p:Nat→Bool}{d:Array Nat}{j i:Nat}(h:i≤j→p d[j]! = false): scanDown p d i j=j:=by
 cases j with
 | zero=>rfl
 | succ j =>
   rw[scanDown]
   by_cases hi:i≤j+1
   ·simp[hi,h hi]
   ·simp[hi]
section
variable {lt:Nat→Nat→Bool} {a i j i2 j2:Nat} {d:Array Nat}
theorem peq_stop (h1:scanUp (fun x=>!lt d[a]! x) d j i=i2)(h2:scanDown (fun x=>lt d[a]! x) d i2 j=j2)(h:i2 > j2): partEqLoop lt a i j d=(i2,d):=by
 rw[partEqLoop];simp only[h1,h2];rw[if_pos h]
theorem peq_go (h1:scanUp (fun x=>!lt d[a]! x) d j i=i2)(h2:scanDown (fun x=>lt d[a]! x) d i2 j=j2)(h:i2≤j2)(hi:i≤i2)(hj:j2≤j)(h0:1≤i2):
 partEqLoop lt a i j d=partEqLoop lt a (i2+1) (j2 - 1) (swp d i2 j2):=by
 rw[partEqLoop];simp only[h1,h2];rw[if_neg (by omega),dif_pos (by omega)]
theorem ploop_stop (h1:scanUp (fun x=>lt x d[a]!) d j i=i2)(h2:scanDown (fun x=>!lt x d[a]!) d i2 j=j2)(h:i2 > j2): partLoop lt a i j d=(j2,d):=by
 rw[partLoop];simp only[h1,h2];rw[if_pos h]
theorem ploop_go (h1:scanUp (fun x=>lt x d[a]!) d j i=i2)(h2:scanDown (fun x=>!lt x d[a]!) d i2 j=j2)(h:i2≤j2)(hi:i≤i2)(hj:j2≤j)(h0:1≤i2):
 partLoop lt a i j d=partLoop lt a (i2+1) (j2 - 1) (swp d i2 j2):=by
 rw[partLoop];simp only[h1,h2];rw[if_neg (by omega),dif_pos (by omega)]
end
theorem not_of_true {b:Bool}(h:b=true): (!b)=false:=by rw[h];rfl
theorem xC {b:Bool}(h:b=false): (!b)=true:=by rw[h];rfl
theorem partitionEqual_calls (S:SRow Tryz.prog g fst cb cf blk off n Γ K Out)(eg:∀ args w,(callFunc g args).run Tryz.prog w=.ok (.enter g args) w) 
 (w:World) (cap a b pv:Nat) (hap:a≤pv) (hpb:pv<b) (hb:b≤n) (hn:n≤1000000000) (γ:Γ) (d:Array Nat) (hK:K γ d w) :
 Calls Tryz.prog 152 #[.slice (some ⟨blk,off,none⟩) n cap,.int .i64 a,.int .i64 b,.int .i64 pv,.func (.func g) fst cb] w fun e w' =>
  e=.returned (.int .i64 (partitionEqual (ltf cf) d a b pv).1)∧Hid (SPost K Out γ w (partitionEqual (ltf cf) d a b pv).2 w'):=by
 have H1:Hid (SPost K Out γ w d w):=SPost.refl hK
 clear hK
 obtain⟨b,rfl⟩:∃ z,b=z+1:=⟨b - 1,by omega⟩
 have HF:Hid (∀ r,partEqLoop (ltf cf) a (a+1) b (swp d a pv)=r→partitionEqual (ltf cf) d a (b+1) pv=r):=fun r h=>by unfold partitionEqual; exact h
 go_enter Tryz.func152,Tryz.ntmps152
 have e1:((a:Int):Int).toNat=a:=by omega
 have p1:(0:Int)≤(a:Int):=by omega
 have b1:((a:Int):Int)<(n:Int):=by omega
 have w1:IntKind.i64.wrap ((a:Int):Int)=(a:Int):=by rw[IntKind.wrap_i64];omega
 have e2:((pv:Int):Int).toNat=pv:=by omega
 have p2:(0:Int)≤(pv:Int):=by omega
 have b2:((pv:Int):Int)<(n:Int):=by omega
 have w2:IntKind.i64.wrap ((pv:Int):Int)=(pv:Int):=by rw[IntKind.wrap_i64];omega
 have c1:=S.pcell H1.out (a) (by omega)
 have c2:=S.pcell H1.out (pv) (by omega)
 have f1:=S.pfree H1.out (a) (by omega)
 have f2:=S.pfree H1.out (pv) (by omega)
 obtain⟨u,c3⟩:=S.pcell2 H1.out (a) (pv) (by omega) (by omega) (.int .i64 (d[pv]!:Nat))
 have H2:Hid _:=S.pswap H1.out (a) (pv) (by omega) (by omega)
 clear H1
 go_wp2_with fail
 go_region
 clear c1 c2 f1 f2 c3
 clear e2 p2 b2 w2
 go_wp2_with fail
 go_loopg [11,12] (b+1) (fun g1 vi vj wr=>∃ (i j:Nat) (dk:Array Nat),vi=.int .i64 i∧vj=.int .i64 j∧a+1≤i∧i≤b+1∧a≤j∧j≤b∧j+1 - i≤g1∧Hid (SPost K Out γ w dk wr)∧Hid (partEqLoop (ltf cf) a (a+1) b (swp d a pv)=partEqLoop (ltf cf) a i j dk))
 case atStart=>exact⟨a+1,b,swp d a pv,by go_num,by go_num,by omega,by omega,by omega,by omega,by omega,H2,rfl⟩
 case round =>
  clear H2 e1 p1 b1 w1
  obtain⟨i,j,dk,rfl,rfl,hi0,hib,haj,hjb,hg1,H1,EL⟩:=hrel
  go_upto_block 2 with fail
  go_cut [11] from 31 to 49 (fun vi wq=>∃ (i2:Nat),vi=.int .i64 i2∧i≤i2∧(i2≤i∨i2≤j+1)∧Hid (SPost K Out γ w dk wq)∧Hid (scanUp (fun x=>!ltf cf dk[a]! x) dk j i=i2))
  case first =>
   go_wp2_with fail
   go_loopg [11] (j+1 - i) (fun g2 vi wr2=>∃ (q:Nat),vi=.int .i64 q∧i≤q∧(q≤i∨q≤j+1)∧j+1 - q≤g2∧Hid (SPost K Out γ w dk wr2)∧Hid (scanUp (fun x=>!ltf cf dk[a]! x) dk j i=scanUp (fun x=>!ltf cf dk[a]! x) dk j q))
   case atStart=>exact⟨i,rfl,by omega,by omega,by omega,H1,rfl⟩
   case round =>
    clear H1
    obtain⟨q,rfl,hq1,hq2,hq3,H2,E2⟩:=hrel
    by_cases hqj:q≤j
    ·have hg:decide ((q:Int)≤(j:Int))=true:=by simp; omega
     have e1:((q:Int):Int).toNat=q:=by omega
     have p1:(0:Int)≤(q:Int):=by omega
     have b1:((q:Int):Int)<(n:Int):=by omega
     have w1:IntKind.i64.wrap ((q:Int):Int)=(q:Int):=by rw[IntKind.wrap_i64];omega
     have e2:((a:Int):Int).toNat=a:=by omega
     have p2:(0:Int)≤(a:Int):=by omega
     have b2:((a:Int):Int)<(n:Int):=by omega
     have w2:IntKind.i64.wrap ((a:Int):Int)=(a:Int):=by rw[IntKind.wrap_i64];omega
     have c1:=S.pcell H2.out (a) (by omega)
     have c2:=S.pcell H2.out (q) (by omega)
     have HC:=S.pcmp H2.out (a) (q) (by omega) (by omega)
     clear H2
     by_cases hc:cf dk[a]! dk[q]!<0
     ·have hdc:decide (cf dk[a]! dk[q]!<0)=true:=decide_eq_true hc
      have E3:Hid (scanUp (fun x=>!ltf cf dk[a]! x) dk j i=q):=by show _=_; rw[E2.out,zY (fun _=>?_)];exact not_of_true (decide_eq_true hc)
      clear E2
      go_wp2_with fail
      go_still_tail 13,(by kernel_rfl)
      change wpList _ _ _ _ _ (World.drew _)
      go_wp2_with ((with_reducible refine HC.mono ?_);rintro e w' ⟨rfl,H3⟩)
      clear HC c1 c2 hdc
      go_meet
      case rel=>exact⟨q,rfl,hq1,hq2,H3,E3⟩
     ·have hdc:decide (cf dk[a]! dk[q]!<0)=false:=decide_eq_false hc
      have E3:Hid (scanUp (fun x=>!ltf cf dk[a]! x) dk j i=scanUp (fun x=>!ltf cf dk[a]! x) dk j (q+1)):=by show _=_; rw[E2.out,scanUp_go hqj];exact xC (decide_eq_false hc)
      clear E2
      go_wp2_with fail
      go_still_tail 13,(by kernel_rfl)
      change wpList _ _ _ _ _ (World.drew _)
      go_wp2_with ((with_reducible refine HC.mono ?_);rintro e w' ⟨rfl,H3⟩)
      clear HC c1 c2 hdc
      go_roundg (j+1 - (q+1))
      case measure=>omega
      case rel=>exact⟨q+1,by go_num,by omega,by omega,by omega,H3,E3⟩
    ·have hg:decide ((q:Int)≤(j:Int))=false:=by simp; omega
     have E3:Hid (scanUp (fun x=>!ltf cf dk[a]! x) dk j i=q):=by show _=_; rw[E2.out,zY (fun h=>absurd h hqj)]
     have H3:Hid _:=S.pdrew H2.out
     clear E2 H2
     go_wp2_with fail
     go_region
     go_wp2_with fail
     go_meet
     case rel=>exact⟨q,rfl,hq1,hq2,H3,E3⟩
  case rest =>
   clear H1
   obtain⟨i2,rfl,hi1,hi2,H1,EU⟩:=hcut
   go_upto_block 4 with fail
   go_cut [12] from 50 to 67 (fun vi wq=>∃ (j2:Nat),vi=.int .i64 j2∧j2≤j∧(j≤j2∨i2≤j2+1)∧Hid (SPost K Out γ w dk wq)∧Hid (scanDown (fun x=>ltf cf dk[a]! x) dk i2 j=j2))
   case first =>
    go_wp2_with fail
    go_loopg [12] (j+1) (fun g2 vi wr2=>∃ (q:Nat),vi=.int .i64 q∧q≤j∧(j≤q∨i2≤q+1)∧q+1≤g2∧Hid (SPost K Out γ w dk wr2)∧Hid (scanDown (fun x=>ltf cf dk[a]! x) dk i2 j=scanDown (fun x=>ltf cf dk[a]! x) dk i2 q))
    case atStart=>exact⟨j,rfl,by omega,by omega,by omega,H1,rfl⟩
    case round =>
     clear H1
     obtain⟨q,rfl,hq1,hq2,hq3,H2,E2⟩:=hrel
     by_cases hqj:i2≤q
     ·obtain⟨q,rfl⟩:∃ z,q=z+1:=⟨q - 1,by omega⟩
      have hg:decide ((i2:Int)≤(q:Int)+1)=true:=by simp; omega
      have e1:((q:Int)+1:Int).toNat=q+1:=by omega
      have p1:(0:Int)≤(q:Int)+1:=by omega
      have b1:((q:Int)+1:Int)<(n:Int):=by omega
      have w1:IntKind.i64.wrap ((q:Int)+1:Int)=(q:Int)+1:=by rw[IntKind.wrap_i64];omega
      have e2:((a:Int):Int).toNat=a:=by omega
      have p2:(0:Int)≤(a:Int):=by omega
      have b2:((a:Int):Int)<(n:Int):=by omega
      have w2:IntKind.i64.wrap ((a:Int):Int)=(a:Int):=by rw[IntKind.wrap_i64];omega
      have c1:=S.pcell H2.out (a) (by omega)
      have c2:=S.pcell H2.out (q+1) (by omega)
      have HC:=S.pcmp H2.out (a) (q+1) (by omega) (by omega)
      clear H2
      by_cases hc:cf dk[a]! dk[q+1]!<0
      ·have hdc:decide (cf dk[a]! dk[q+1]!<0)=true:=decide_eq_true hc
       have E3:Hid (scanDown (fun x=>ltf cf dk[a]! x) dk i2 j=scanDown (fun x=>ltf cf dk[a]! x) dk i2 q):=by show _=_; rw[E2.out,scanDown_go hqj];exact decide_eq_true hc
       clear E2
       go_wp2_with fail
       go_still_tail 13,(by kernel_rfl)
       change wpList _ _ _ _ _ (World.drew _)
       go_wp2_with ((with_reducible refine HC.mono ?_);rintro e w' ⟨rfl,H3⟩)
       clear HC c1 c2 hdc
       go_roundg (q+1)
       case measure=>omega
       case rel=>exact⟨q,by go_num,by omega,by omega,by omega,H3,E3⟩
      ·have hdc:decide (cf dk[a]! dk[q+1]!<0)=false:=decide_eq_false hc
       have E3:Hid (scanDown (fun x=>ltf cf dk[a]! x) dk i2 j=q+1):=by show _=_; rw[E2.out,zB (fun _=>?_)];exact decide_eq_false hc
       clear E2
       go_wp2_with fail
       go_still_tail 13,(by kernel_rfl)
       change wpList _ _ _ _ _ (World.drew _)
       go_wp2_with ((with_reducible refine HC.mono ?_);rintro e w' ⟨rfl,H3⟩)
       clear HC c1 c2 hdc
       go_meet
       case rel=>exact⟨q+1,by go_num,hq1,hq2,H3,E3⟩
     ·have hg:decide ((i2:Int)≤(q:Int))=false:=by simp; omega
      have E3:Hid (scanDown (fun x=>ltf cf dk[a]! x) dk i2 j=q):=by show _=_; rw[E2.out,zB (fun h=>absurd h hqj)]
      have H3:Hid _:=S.pdrew H2.out
      clear E2 H2
      go_wp2_with fail
      go_region
      go_wp2_with fail
      go_meet
      case rel=>exact⟨q,rfl,hq1,hq2,H3,E3⟩
   case rest =>
    clear H1
    obtain⟨j2,rfl,hj1,hj2,H1,ED⟩:=hcut
    by_cases hx:j2<i2
    ·have hxz:(j2:Int)<(i2:Int):=by omega
     have E4:Hid (partitionEqual (ltf cf) d a (b+1) pv=(i2,dk)):=HF.out _ (EL.out.trans (peq_stop EU.out ED.out hx))
     clear EL EU ED HF
     go_wp2_with fail
     go_ret
     rw[E4.out]
     exact⟨rfl,H1⟩
    ·have hxz:¬ (j2:Int)<(i2:Int):=by omega
     have E4:Hid (partEqLoop (ltf cf) a (a+1) b (swp d a pv)=partEqLoop (ltf cf) a (i2+1) (j2 - 1) (swp dk i2 j2)):=by
      show _=_; rw[EL.out,peq_go EU.out ED.out (by omega) (by omega) (by omega) (by omega)]
     clear EL EU ED
     have e1:((i2:Int):Int).toNat=i2:=by omega
     have p1:(0:Int)≤(i2:Int):=by omega
     have b1:((i2:Int):Int)<(n:Int):=by omega
     have w1:IntKind.i64.wrap ((i2:Int):Int)=(i2:Int):=by rw[IntKind.wrap_i64];omega
     have e2:((j2:Int):Int).toNat=j2:=by omega
     have p2:(0:Int)≤(j2:Int):=by omega
     have b2:((j2:Int):Int)<(n:Int):=by omega
     have w2:IntKind.i64.wrap ((j2:Int):Int)=(j2:Int):=by rw[IntKind.wrap_i64];omega
     have c1:=S.pcell H1.out (i2) (by omega)
     have c2:=S.pcell H1.out (j2) (by omega)
     have f1:=S.pfree H1.out (i2) (by omega)
     have f2:=S.pfree H1.out (j2) (by omega)
     obtain⟨u,c3⟩:=S.pcell2 H1.out (i2) (j2) (by omega) (by omega) (.int .i64 (dk[j2]!:Nat))
     have H2:Hid _:=S.pswap H1.out (i2) (j2) (by omega) (by omega)
     clear H1
     go_wp2_with fail
     go_region
     clear c1 c2 f1 f2 c3
     go_wp2_with fail
     go_roundg (j2 - 1+1 - (i2+1))
     case measure=>omega
     case rel=>exact⟨i2+1,j2 - 1,swp dk i2 j2,by go_num,by congr 1; omega,by omega,by omega,by omega,by omega,by omega,H2,E4⟩
end
end Sr
