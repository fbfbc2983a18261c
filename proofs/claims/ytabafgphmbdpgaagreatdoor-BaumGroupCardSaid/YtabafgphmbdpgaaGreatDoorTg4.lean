/- Texts of this claim, joined: GrW, RawO. -/
import Derived.Test.YtabafgphmbdpgaaGreatDoorTg1
import Derived.Test.YtabafgphmbdpgaaGreatDoorTg3
import Derived.Test.YtabafgphmbdpgaaGreatDoorTe1
import Derived.Deep.SlicePairs
import Derived.Deep.Strs
import Derived.SizedLaws
import Derived.OpenShut
set_option maxHeartbeats 8000000
set_option maxRecDepth 100000
namespace Sr
open Go Go.Proofs Go.RowKit Go.Maps Go.WideMaps
structure GE (W w:World)(L:List (Nat×Q3×E3)): Prop where
 bl:Below W.heap.size W w
 el:∀ q∈L,w.heap[q.1]? = some (.cells #[.pointer q.2.1.1,.pointer q.2.1.2.1,.pointer q.2.1.2.2] 28 (0,0))∧IsE w (.agg #[.pointer q.2.1.1,.pointer q.2.1.2.1,.pointer q.2.1.2.2]) q.2.2
section
variable {W w w':World} {L:List (Nat×Q3×E3)}
theorem GE.below (h:GE W w L)(k:Below w.heap.size w w'): GE W w' L:=⟨Below.trans' h.bl k,fun q hq=>⟨Below.here k (h.el q hq).1,(h.el q hq).2.below k⟩⟩
theorem GE.add (h:GE W w L){u v m:Option Addr}{x:E3}(hx:IsE w (.agg #[.pointer u,.pointer v,.pointer m]) x){a:Nat}(ha:w.heap.size=a): GE W (w.alloc (.cells #[.pointer u,.pointer v,.pointer m] 28)) ((a,(u,v,m),x)::L):=by
 subst ha
 have hb:=(jV w (.cells #[.pointer u,.pointer v,.pointer m] 28)).out
 refine⟨Below.trans' h.bl hb,fun q hq=>?_⟩
 rcases List.mem_cons.1 hq with rfl | hq
 ·exact⟨jD w _,hx.below hb⟩
 ·exact (h.below hb).el q hq
end
def Gd (ok:Prop)(z:E3)(er:Int)(r:E3): Prop:=(er=0∧ok∧r=z)∨(er=5∧¬ ok∧r=⟨0,0,0⟩)
theorem group_calls {W:World}{V1 V2 V3:Value}(h1:TIn W V1)(h2:TIn W V2)(h3:TIn W V3): Calls Tryz.prog 12 #[V1,V2,V3] W fun e W'=>e=.returned (.bool true)∧Hid (Below W.heap.size W W'):=by
 obtain⟨n1,n2,n3,a1,a2,a3,k1,c1,k2,c2,k3,c3,l1,l2,l3,rfl,t1,t2,t3⟩:=h1
 obtain⟨m1,m2,m3,d1,d2,d3,j1,e1,j2,e2,j3,e3,r1,r2,r3,rfl,u1,u2,u3⟩:=h2
 obtain⟨o1,o2,o3,f1,f2,f3,z1,g1,z2,g2,z3,g3,s1,s2,s3,rfl,v1,v2,v3⟩:=h3
 have T1:=jH t1
 have T2:=jH t2
 have T3:=jH t3
 have U1:=jH u1
 have U2:=jH u2
 have U3:=jH u3
 have V1:=jH v1
 have V2:=jH v2
 have V3:=jH v3
 clear t1 t2 t3 u1 u2 u3 v1 v2 v3
 obtain⟨W1,B,hW1,hB,HA,HB1⟩:∃ W1 B,((W.alloc (.cells #[.slice a1 k1 c1,.slice a2 k2 c2,.slice a3 k3 c3] 88)).alloc (.cells #[.slice d1 j1 e1,.slice d2 j2 e2,.slice d3 j3 e3] 88)).alloc (.cells #[.slice f1 z1 g1,.slice f2 z2 g2,.slice f3 z3 g3] 88)=W1∧W.heap.size=B ∧
  Hid (Has W1 [(B+1+1,#[.slice f1 z1 g1,.slice f2 z2 g2,.slice f3 z3 g3],88),(B+1,#[.slice d1 j1 e1,.slice d2 j2 e2,.slice d3 j3 e3],88),(B,#[.slice a1 k1 c1,.slice a2 k2 c2,.slice a3 k3 c3],88)])∧Hid (Below W.heap.size W W1):=by
  have h:=(((Has.nil W).add #[.slice a1 k1 c1,.slice a2 k2 c2,.slice a3 k3 c3] 88).add #[.slice d1 j1 e1,.slice d2 j2 e2,.slice d3 j3 e3] 88).add #[.slice f1 z1 g1,.slice f2 z2 g2,.slice f3 z3 g3] 88
  rw[jY,jY] at h
  exact⟨_,_,rfl,rfl,h,(((Below.refl _ _).alloc (jR _) _).alloc (by simp) _).alloc (by simp; omega) _⟩
 have hN:=xM W1
 go_enter Tryz.func12,Tryz.ntmps12
 go_wp2_with fail
 refine hN.mono ?_
 rintro e w2 ⟨p,fv,fl,rfl,hrw,hb2,hnew⟩
 have HM2:Hid (MS2 W1 w2 p [] fv fl [0] [(B+1+1,#[.slice f1 z1 g1,.slice f2 z2 g2,.slice f3 z3 g3],88),(B+1,#[.slice d1 j1 e1,.slice d2 j2 e2,.slice d3 j3 e3],88),(B,#[.slice a1 k1 c1,.slice a2 k2 c2,.slice a3 k3 c3],88)]):=⟨hrw.out,hb2.out,hnew.out,HA.out.below hb2.out,by simp⟩
 clear hN hrw hb2 hnew
 have i0:w2.cell? ⟨B,0,none⟩=some (.slice a1 k1 c1):=by rw[HM2.out.hs.cell (b:=B) (c:=#[.slice a1 k1 c1,.slice a2 k2 c2,.slice a3 k3 c3]) (T:=88) (by simp) 0];rfl
 have i1:w2.cell? ⟨B,1,none⟩=some (.slice a2 k2 c2):=by rw[HM2.out.hs.cell (b:=B) (c:=#[.slice a1 k1 c1,.slice a2 k2 c2,.slice a3 k3 c3]) (T:=88) (by simp) 1];rfl
 have i2:w2.cell? ⟨B,2,none⟩=some (.slice a3 k3 c3):=by rw[HM2.out.hs.cell (b:=B) (c:=#[.slice a1 k1 c1,.slice a2 k2 c2,.slice a3 k3 c3]) (T:=88) (by simp) 2];rfl
 have hE:=element_calls HM2.out.rw (RIn.below HB1.out T1.out) (RIn.below HB1.out T2.out) (RIn.below HB1.out T3.out) HM2.out.bl HM2.out.rb (by simp)
 go_wp2_with fail
 refine hE.mono ?_
 rintro e wx ⟨qu4,qv4,qm4,iu4,iv4,im4,ok4,C4,fv4,fl4,vs4,rfl,hC4,hrw,hre,hok⟩
 obtain⟨w4,A4,hw4,hA4,HM4,HL4⟩:∃ w A,(wx.alloc (.cells #[.pointer qu4,.pointer qv4,.pointer qm4] 28)).alloc (.cells #[.int .i64 (iu4:Nat),.int .i64 (iv4:Nat),.int .i64 (im4:Nat)] 35)=w∧wx.heap.size=A ∧
  Hid (MS2 W1 w p C4 fv4 fl4 vs4 ((A+1,#[.int .i64 (iu4:Nat),.int .i64 (iv4:Nat),.int .i64 (im4:Nat)],35)::(A,#[.pointer qu4,.pointer qv4,.pointer qm4],28)::[(B+1+1,#[.slice f1 z1 g1,.slice f2 z2 g2,.slice f3 z3 g3],88),(B+1,#[.slice d1 j1 e1,.slice d2 j2 e2,.slice d3 j3 e3],88),(B,#[.slice a1 k1 c1,.slice a2 k2 c2,.slice a3 k3 c3],88)]))∧Hid (Below wx.heap.size wx w) :=
  ⟨_,_,rfl,rfl,((HM2.out.re hre.out hrw.out).add _ _ (.inl rfl) rfl).add _ _ (.inr (.inl rfl)) (by simp),((Below.refl _ _).alloc (jR _) _).alloc (by simp) _⟩
 have HK4:Hid (ok4=true→∃ x,EOK x∧IsE w4 (.agg #[.pointer qu4,.pointer qv4,.pointer qm4]) x∧AtE vs4 x iu4 iv4 im4):=fun h=>by
  obtain⟨x,a,b,c⟩:=hok.out h
  exact⟨x,a,b.below HL4.out,c⟩
 have HC4:=jH hC4
 have HR4:Hid (Fr (rF p fv) w2 w4∧[0] <+: vs4):=⟨(hre.out.post HL4.out).fr,hre.out.ext⟩
 clear hE hrw hre hok i0 i1 i2 hC4
 have i0:w4.cell? ⟨B+1,0,none⟩=some (.slice d1 j1 e1):=by rw[HM4.out.hs.cell (b:=B+1) (c:=#[.slice d1 j1 e1,.slice d2 j2 e2,.slice d3 j3 e3]) (T:=88) (by simp) 0];rfl
 have i1:w4.cell? ⟨B+1,1,none⟩=some (.slice d2 j2 e2):=by rw[HM4.out.hs.cell (b:=B+1) (c:=#[.slice d1 j1 e1,.slice d2 j2 e2,.slice d3 j3 e3]) (T:=88) (by simp) 1];rfl
 have i2:w4.cell? ⟨B+1,2,none⟩=some (.slice d3 j3 e3):=by rw[HM4.out.hs.cell (b:=B+1) (c:=#[.slice d1 j1 e1,.slice d2 j2 e2,.slice d3 j3 e3]) (T:=88) (by simp) 2];rfl
 have hE:=element_calls HM4.out.rw (RIn.below HB1.out U1.out) (RIn.below HB1.out U2.out) (RIn.below HB1.out U3.out) HM4.out.bl HM4.out.rb (by have:=HC4.out; simp at this; omega)
 go_wp2_with fail
 refine hE.mono ?_
 rintro e wx ⟨qu6,qv6,qm6,iu6,iv6,im6,ok6,C6,fv6,fl6,vs6,rfl,hC6,hrw,hre,hok⟩
 obtain⟨w6,A6,hw6,hA6,HM6,HL6⟩:∃ w A,(wx.alloc (.cells #[.pointer qu6,.pointer qv6,.pointer qm6] 28)).alloc (.cells #[.int .i64 (iu6:Nat),.int .i64 (iv6:Nat),.int .i64 (im6:Nat)] 35)=w∧wx.heap.size=A ∧
  Hid (MS2 W1 w p C6 fv6 fl6 vs6 ((A+1,#[.int .i64 (iu6:Nat),.int .i64 (iv6:Nat),.int .i64 (im6:Nat)],35)::(A,#[.pointer qu6,.pointer qv6,.pointer qm6],28)::((A4+1,#[.int .i64 (iu4:Nat),.int .i64 (iv4:Nat),.int .i64 (im4:Nat)],35)::(A4,#[.pointer qu4,.pointer qv4,.pointer qm4],28)::[(B+1+1,#[.slice f1 z1 g1,.slice f2 z2 g2,.slice f3 z3 g3],88),(B+1,#[.slice d1 j1 e1,.slice d2 j2 e2,.slice d3 j3 e3],88),(B,#[.slice a1 k1 c1,.slice a2 k2 c2,.slice a3 k3 c3],88)])))∧Hid (Below wx.heap.size wx w) :=
  ⟨_,_,rfl,rfl,((HM4.out.re hre.out hrw.out).add _ _ (.inl rfl) rfl).add _ _ (.inr (.inl rfl)) (by simp),((Below.refl _ _).alloc (jR _) _).alloc (by simp) _⟩
 have HK6:Hid (ok6=true→∃ x,EOK x∧IsE w6 (.agg #[.pointer qu6,.pointer qv6,.pointer qm6]) x∧AtE vs6 x iu6 iv6 im6):=fun h=>by
  obtain⟨x,a,b,c⟩:=hok.out h
  exact⟨x,a,b.below HL6.out,c⟩
 have HC6:=jH hC6
 have HR6:Hid (Fr (rF p fv4) w4 w6∧vs4 <+: vs6):=⟨(hre.out.post HL6.out).fr,hre.out.ext⟩
 clear hE hrw hre hok i0 i1 i2 hC6
 have i0:w6.cell? ⟨B+1+1,0,none⟩=some (.slice f1 z1 g1):=by rw[HM6.out.hs.cell (b:=B+1+1) (c:=#[.slice f1 z1 g1,.slice f2 z2 g2,.slice f3 z3 g3]) (T:=88) (by simp) 0];rfl
 have i1:w6.cell? ⟨B+1+1,1,none⟩=some (.slice f2 z2 g2):=by rw[HM6.out.hs.cell (b:=B+1+1) (c:=#[.slice f1 z1 g1,.slice f2 z2 g2,.slice f3 z3 g3]) (T:=88) (by simp) 1];rfl
 have i2:w6.cell? ⟨B+1+1,2,none⟩=some (.slice f3 z3 g3):=by rw[HM6.out.hs.cell (b:=B+1+1) (c:=#[.slice f1 z1 g1,.slice f2 z2 g2,.slice f3 z3 g3]) (T:=88) (by simp) 2];rfl
 have hE:=element_calls HM6.out.rw (RIn.below HB1.out V1.out) (RIn.below HB1.out V2.out) (RIn.below HB1.out V3.out) HM6.out.bl HM6.out.rb (by have h1:=HC4.out; have h2:=HC6.out; simp at h1; omega)
 go_wp2_with fail
 refine hE.mono ?_
 rintro e wx ⟨qu8,qv8,qm8,iu8,iv8,im8,ok8,C8,fv8,fl8,vs8,rfl,hC8,hrw,hre,hok⟩
 obtain⟨w8,A8,hw8,hA8,HM8,HL8⟩:∃ w A,(wx.alloc (.cells #[.pointer qu8,.pointer qv8,.pointer qm8] 28)).alloc (.cells #[.int .i64 (iu8:Nat),.int .i64 (iv8:Nat),.int .i64 (im8:Nat)] 35)=w∧wx.heap.size=A ∧
  Hid (MS2 W1 w p C8 fv8 fl8 vs8 ((A+1,#[.int .i64 (iu8:Nat),.int .i64 (iv8:Nat),.int .i64 (im8:Nat)],35)::(A,#[.pointer qu8,.pointer qv8,.pointer qm8],28)::((A6+1,#[.int .i64 (iu6:Nat),.int .i64 (iv6:Nat),.int .i64 (im6:Nat)],35)::(A6,#[.pointer qu6,.pointer qv6,.pointer qm6],28)::((A4+1,#[.int .i64 (iu4:Nat),.int .i64 (iv4:Nat),.int .i64 (im4:Nat)],35)::(A4,#[.pointer qu4,.pointer qv4,.pointer qm4],28)::[(B+1+1,#[.slice f1 z1 g1,.slice f2 z2 g2,.slice f3 z3 g3],88),(B+1,#[.slice d1 j1 e1,.slice d2 j2 e2,.slice d3 j3 e3],88),(B,#[.slice a1 k1 c1,.slice a2 k2 c2,.slice a3 k3 c3],88)]))))∧Hid (Below wx.heap.size wx w) :=
  ⟨_,_,rfl,rfl,((HM6.out.re hre.out hrw.out).add _ _ (.inl rfl) rfl).add _ _ (.inr (.inl rfl)) (by simp),((Below.refl _ _).alloc (jR _) _).alloc (by simp) _⟩
 have HK8:Hid (ok8=true→∃ x,EOK x∧IsE w8 (.agg #[.pointer qu8,.pointer qv8,.pointer qm8]) x∧AtE vs8 x iu8 iv8 im8):=fun h=>by
  obtain⟨x,a,b,c⟩:=hok.out h
  exact⟨x,a,b.below HL8.out,c⟩
 have HC8:=jH hC8
 have HR8:Hid (Fr (rF p fv6) w6 w8∧vs6 <+: vs8):=⟨(hre.out.post HL8.out).fr,hre.out.ext⟩
 clear hE hrw hre hok i0 i1 i2 hC8
 cases ok4 with
 | false =>
   have hS:=jx w8
   go_wp2_with fail
   refine hS.mono ?_
   rintro e wz ⟨rfl,hbz⟩
   go_wp2_with fail
   go_ret
   exact⟨rfl,Below.trans' (Below.trans' HB1.out HM8.out.bl) hbz.out⟩
 | true =>
   cases ok6 with
   | false =>
     have hS:=jx w8
     go_wp2_with fail
     refine hS.mono ?_
     rintro e wz ⟨rfl,hbz⟩
     go_wp2_with fail
     go_ret
     exact⟨rfl,Below.trans' (Below.trans' HB1.out HM8.out.bl) hbz.out⟩
   | true =>
     cases ok8 with
     | false =>
       have hS:=jx w8
       go_wp2_with fail
       refine hS.mono ?_
       rintro e wz ⟨rfl,hbz⟩
       go_wp2_with fail
       go_ret
       exact⟨rfl,Below.trans' (Below.trans' HB1.out HM8.out.bl) hbz.out⟩
     | true =>
       obtain⟨x,-,ex,-⟩:=HK4.out rfl
       obtain⟨y,-,ey,-⟩:=HK6.out rfl
       obtain⟨z,-,ez,-⟩:=HK8.out rfl
       have HG8:Hid (GE W w8 [(A8,(qu8,qv8,qm8),z),(A6,(qu6,qv6,qm6),y),(A4,(qu4,qv4,qm4),x)]):=by
        have ex8:=(ex.fr HM4.out.rw HR6.out.1).fr HM6.out.rw HR8.out.1
        have ey8:=ey.fr HM6.out.rw HR8.out.1
        have g8:=HM8.out.hs (A8,#[.pointer qu8,.pointer qv8,.pointer qm8],28) (by simp)
        have g6:=HM8.out.hs (A6,#[.pointer qu6,.pointer qv6,.pointer qm6],28) (by simp)
        have g4:=HM8.out.hs (A4,#[.pointer qu4,.pointer qv4,.pointer qm4],28) (by simp)
        refine⟨Below.trans' HB1.out HM8.out.bl,fun q hq=>?_⟩
        simp only[List.mem_cons,List.not_mem_nil,or_false] at hq
        rcases hq with rfl | rfl | rfl
        ·exact⟨g8,ez⟩
        ·exact⟨g6,ey8⟩
        ·exact⟨g4,ex8⟩
       clear ex ey ez HM2 HM4 HM6 HM8 HK4 HK6 HK8 HR4 HR6 HR8 HC4 HC6 HC8
       have hMu:=Mul_any (HG8.out.el (A4,(qu4,qv4,qm4),x) (by simp)).2 (HG8.out.el (A6,(qu6,qv6,qm6),y) (by simp)).2
       have a0:w8.cell? ⟨A4,0,none⟩=some (.pointer qu4):=by rw[jB (HG8.out.el (A4,(qu4,qv4,qm4),x) (by simp)).1];rfl
       have a1:w8.cell? ⟨A4,1,none⟩=some (.pointer qv4):=by rw[jB (HG8.out.el (A4,(qu4,qv4,qm4),x) (by simp)).1];rfl
       have a2:w8.cell? ⟨A4,2,none⟩=some (.pointer qm4):=by rw[jB (HG8.out.el (A4,(qu4,qv4,qm4),x) (by simp)).1];rfl
       have b0:w8.cell? ⟨A6,0,none⟩=some (.pointer qu6):=by rw[jB (HG8.out.el (A6,(qu6,qv6,qm6),y) (by simp)).1];rfl
       have b1:w8.cell? ⟨A6,1,none⟩=some (.pointer qv6):=by rw[jB (HG8.out.el (A6,(qu6,qv6,qm6),y) (by simp)).1];rfl
       have b2:w8.cell? ⟨A6,2,none⟩=some (.pointer qm6):=by rw[jB (HG8.out.el (A6,(qu6,qv6,qm6),y) (by simp)).1];rfl
       go_wp2_with fail
       refine hMu.mono ?_
       rintro e wm ⟨qu10,qv10,qm10,er10,r10,rfl,hie,hbm,hc⟩
       obtain⟨w10,A10,hw10,hA10,HG10⟩:∃ w A,wm.alloc (.cells #[.pointer qu10,.pointer qv10,.pointer qm10] 28)=w∧wm.heap.size=A∧Hid (GE W w ((A,(qu10,qv10,qm10),r10)::[(A8,(qu8,qv8,qm8),z),(A6,(qu6,qv6,qm6),y),(A4,(qu4,qv4,qm4),x)])):=⟨_,_,rfl,rfl,(HG8.out.below hbm.out).add hie.out rfl⟩
       have HC10:Hid (Gd (TimesOK x y) (timesE x y) er10 r10):=hc.out
       clear hMu hie hbm hc a0 a1 a2 b0 b1 b2
       have hMu:=Mul_any (HG10.out.el (A6,(qu6,qv6,qm6),y) (by simp)).2 (HG10.out.el (A8,(qu8,qv8,qm8),z) (by simp)).2
       have a0:w10.cell? ⟨A6,0,none⟩=some (.pointer qu6):=by rw[jB (HG10.out.el (A6,(qu6,qv6,qm6),y) (by simp)).1];rfl
       have a1:w10.cell? ⟨A6,1,none⟩=some (.pointer qv6):=by rw[jB (HG10.out.el (A6,(qu6,qv6,qm6),y) (by simp)).1];rfl
       have a2:w10.cell? ⟨A6,2,none⟩=some (.pointer qm6):=by rw[jB (HG10.out.el (A6,(qu6,qv6,qm6),y) (by simp)).1];rfl
       have b0:w10.cell? ⟨A8,0,none⟩=some (.pointer qu8):=by rw[jB (HG10.out.el (A8,(qu8,qv8,qm8),z) (by simp)).1];rfl
       have b1:w10.cell? ⟨A8,1,none⟩=some (.pointer qv8):=by rw[jB (HG10.out.el (A8,(qu8,qv8,qm8),z) (by simp)).1];rfl
       have b2:w10.cell? ⟨A8,2,none⟩=some (.pointer qm8):=by rw[jB (HG10.out.el (A8,(qu8,qv8,qm8),z) (by simp)).1];rfl
       go_wp2_with fail
       refine hMu.mono ?_
       rintro e wm ⟨qu11,qv11,qm11,er11,r11,rfl,hie,hbm,hc⟩
       obtain⟨w11,A11,hw11,hA11,HG11⟩:∃ w A,wm.alloc (.cells #[.pointer qu11,.pointer qv11,.pointer qm11] 28)=w∧wm.heap.size=A∧Hid (GE W w ((A,(qu11,qv11,qm11),r11)::[(A10,(qu10,qv10,qm10),r10),(A8,(qu8,qv8,qm8),z),(A6,(qu6,qv6,qm6),y),(A4,(qu4,qv4,qm4),x)])):=⟨_,_,rfl,rfl,(HG10.out.below hbm.out).add hie.out rfl⟩
       have HC11:Hid (Gd (TimesOK y z) (timesE y z) er11 r11):=hc.out
       clear hMu hie hbm hc a0 a1 a2 b0 b1 b2
       rcases HC10.out with ⟨h1,-,h3⟩ | ⟨h1,-,-⟩
       rotate_left
       ·subst h1
        have hS:=jx w11
        go_wp2_with fail
        refine hS.mono ?_
        rintro e wz ⟨rfl,hbz⟩
        go_wp2_with fail
        go_ret
        exact⟨rfl,Below.trans' HG11.out.bl hbz.out⟩
       rcases HC11.out with ⟨h4,-,h6⟩ | ⟨h4,-,-⟩
       rotate_left
       ·subst h1
        subst h4
        have hS:=jx w11
        go_wp2_with fail
        refine hS.mono ?_
        rintro e wz ⟨rfl,hbz⟩
        go_wp2_with fail
        go_ret
        exact⟨rfl,Below.trans' HG11.out.bl hbz.out⟩
       subst h1
       subst h3
       subst h4
       subst h6
       clear HC10 HC11
       have hMu:=Mul_any (HG11.out.el (A10,(qu10,qv10,qm10),(timesE x y)) (by simp)).2 (HG11.out.el (A8,(qu8,qv8,qm8),z) (by simp)).2
       have a0:w11.cell? ⟨A10,0,none⟩=some (.pointer qu10):=by rw[jB (HG11.out.el (A10,(qu10,qv10,qm10),(timesE x y)) (by simp)).1];rfl
       have a1:w11.cell? ⟨A10,1,none⟩=some (.pointer qv10):=by rw[jB (HG11.out.el (A10,(qu10,qv10,qm10),(timesE x y)) (by simp)).1];rfl
       have a2:w11.cell? ⟨A10,2,none⟩=some (.pointer qm10):=by rw[jB (HG11.out.el (A10,(qu10,qv10,qm10),(timesE x y)) (by simp)).1];rfl
       have b0:w11.cell? ⟨A8,0,none⟩=some (.pointer qu8):=by rw[jB (HG11.out.el (A8,(qu8,qv8,qm8),z) (by simp)).1];rfl
       have b1:w11.cell? ⟨A8,1,none⟩=some (.pointer qv8):=by rw[jB (HG11.out.el (A8,(qu8,qv8,qm8),z) (by simp)).1];rfl
       have b2:w11.cell? ⟨A8,2,none⟩=some (.pointer qm8):=by rw[jB (HG11.out.el (A8,(qu8,qv8,qm8),z) (by simp)).1];rfl
       go_wp2_with fail
       refine hMu.mono ?_
       rintro e wm ⟨qu12,qv12,qm12,er12,r12,rfl,hie,hbm,hc⟩
       obtain⟨w12,A12,hw12,hA12,HG12⟩:∃ w A,wm.alloc (.cells #[.pointer qu12,.pointer qv12,.pointer qm12] 28)=w∧wm.heap.size=A∧Hid (GE W w ((A,(qu12,qv12,qm12),r12)::[(A11,(qu11,qv11,qm11),timesE y z),(A10,(qu10,qv10,qm10),timesE x y),(A8,(qu8,qv8,qm8),z),(A6,(qu6,qv6,qm6),y),(A4,(qu4,qv4,qm4),x)])):=⟨_,_,rfl,rfl,(HG11.out.below hbm.out).add hie.out rfl⟩
       have HC12:Hid (Gd (TimesOK (timesE x y) z) (timesE (timesE x y) z) er12 r12):=hc.out
       clear hMu hie hbm hc a0 a1 a2 b0 b1 b2
       have hMu:=Mul_any (HG12.out.el (A4,(qu4,qv4,qm4),x) (by simp)).2 (HG12.out.el (A11,(qu11,qv11,qm11),(timesE y z)) (by simp)).2
       have a0:w12.cell? ⟨A4,0,none⟩=some (.pointer qu4):=by rw[jB (HG12.out.el (A4,(qu4,qv4,qm4),x) (by simp)).1];rfl
       have a1:w12.cell? ⟨A4,1,none⟩=some (.pointer qv4):=by rw[jB (HG12.out.el (A4,(qu4,qv4,qm4),x) (by simp)).1];rfl
       have a2:w12.cell? ⟨A4,2,none⟩=some (.pointer qm4):=by rw[jB (HG12.out.el (A4,(qu4,qv4,qm4),x) (by simp)).1];rfl
       have b0:w12.cell? ⟨A11,0,none⟩=some (.pointer qu11):=by rw[jB (HG12.out.el (A11,(qu11,qv11,qm11),(timesE y z)) (by simp)).1];rfl
       have b1:w12.cell? ⟨A11,1,none⟩=some (.pointer qv11):=by rw[jB (HG12.out.el (A11,(qu11,qv11,qm11),(timesE y z)) (by simp)).1];rfl
       have b2:w12.cell? ⟨A11,2,none⟩=some (.pointer qm11):=by rw[jB (HG12.out.el (A11,(qu11,qv11,qm11),(timesE y z)) (by simp)).1];rfl
       go_wp2_with fail
       refine hMu.mono ?_
       rintro e wm ⟨qu13,qv13,qm13,er13,r13,rfl,hie,hbm,hc⟩
       obtain⟨w13,A13,hw13,hA13,HG13⟩:∃ w A,wm.alloc (.cells #[.pointer qu13,.pointer qv13,.pointer qm13] 28)=w∧wm.heap.size=A∧Hid (GE W w ((A,(qu13,qv13,qm13),r13)::[(A12,(qu12,qv12,qm12),r12),(A11,(qu11,qv11,qm11),timesE y z),(A10,(qu10,qv10,qm10),timesE x y),(A8,(qu8,qv8,qm8),z),(A6,(qu6,qv6,qm6),y),(A4,(qu4,qv4,qm4),x)])):=⟨_,_,rfl,rfl,(HG12.out.below hbm.out).add hie.out rfl⟩
       have HC13:Hid (Gd (TimesOK x (timesE y z)) (timesE x (timesE y z)) er13 r13):=hc.out
       clear hMu hie hbm hc a0 a1 a2 b0 b1 b2
       go_upto_region 13 with fail
       go_cut [107] from 96 to 107 (fun v107 wq=>v107=.bool false∧Hid (Below w13.heap.size w13 wq))
       case first =>
        rcases HC12.out with ⟨h1,-,h3⟩ | ⟨h1,-,-⟩
        rotate_left
        ·subst h1
         go_wp2_with fail
         all_goals
          go_meet
          case rel=>exact⟨rfl,Below.refl _ _⟩
        rcases HC13.out with ⟨h4,-,h6⟩ | ⟨h4,-,-⟩
        rotate_left
        ·subst h1
         subst h4
         go_wp2_with fail
         all_goals
          go_meet
          case rel=>exact⟨rfl,Below.refl _ _⟩
        ·subst h1
         subst h4
         have hE:=equal_calls (HG13.out.el (A12,(qu12,qv12,qm12),r12) (by simp)).2 (HG13.out.el (A13,(qu13,qv13,qm13),r13) (by simp)).2
         rw[decide_eq_true (by rw[h3,h6,timesE_assoc]:r12=r13)] at hE
         have a0:w13.cell? ⟨A12,0,none⟩=some (.pointer qu12):=by rw[jB (HG13.out.el (A12,(qu12,qv12,qm12),r12) (by simp)).1];rfl
         have a1:w13.cell? ⟨A12,1,none⟩=some (.pointer qv12):=by rw[jB (HG13.out.el (A12,(qu12,qv12,qm12),r12) (by simp)).1];rfl
         have a2:w13.cell? ⟨A12,2,none⟩=some (.pointer qm12):=by rw[jB (HG13.out.el (A12,(qu12,qv12,qm12),r12) (by simp)).1];rfl
         have b0:w13.cell? ⟨A13,0,none⟩=some (.pointer qu13):=by rw[jB (HG13.out.el (A13,(qu13,qv13,qm13),r13) (by simp)).1];rfl
         have b1:w13.cell? ⟨A13,1,none⟩=some (.pointer qv13):=by rw[jB (HG13.out.el (A13,(qu13,qv13,qm13),r13) (by simp)).1];rfl
         have b2:w13.cell? ⟨A13,2,none⟩=some (.pointer qm13):=by rw[jB (HG13.out.el (A13,(qu13,qv13,qm13),r13) (by simp)).1];rfl
         clear h3 h6
         go_wp2_with fail
         refine hE.mono ?_
         rintro e w14 ⟨rfl,hb14⟩
         go_wp2_with fail
         go_meet
         case rel=>exact⟨rfl,hb14⟩
       case rest =>
        obtain⟨rfl,HBq⟩:=hcut
        obtain⟨w14,rfl⟩:∃ w,w=wc:=⟨_,rfl⟩
        have HG14:=jH (HG13.out.below HBq.out)
        clear HC12 HC13
        have hMu:=Inv_any (HG14.out.el (A4,(qu4,qv4,qm4),x) (by simp)).2
        have a0:w14.cell? ⟨A4,0,none⟩=some (.pointer qu4):=by rw[jB (HG14.out.el (A4,(qu4,qv4,qm4),x) (by simp)).1];rfl
        have a1:w14.cell? ⟨A4,1,none⟩=some (.pointer qv4):=by rw[jB (HG14.out.el (A4,(qu4,qv4,qm4),x) (by simp)).1];rfl
        have a2:w14.cell? ⟨A4,2,none⟩=some (.pointer qm4):=by rw[jB (HG14.out.el (A4,(qu4,qv4,qm4),x) (by simp)).1];rfl
        go_wp2_with fail
        refine hMu.mono ?_
        rintro e wm ⟨qu15,qv15,qm15,er15,r15,rfl,hie,hbm,hc⟩
        obtain⟨w15,A15,hw15,hA15,HG15⟩:∃ w A,wm.alloc (.cells #[.pointer qu15,.pointer qv15,.pointer qm15] 28)=w∧wm.heap.size=A∧Hid (GE W w ((A,(qu15,qv15,qm15),r15)::[(A13,(qu13,qv13,qm13),r13),(A12,(qu12,qv12,qm12),r12),(A11,(qu11,qv11,qm11),timesE y z),(A10,(qu10,qv10,qm10),timesE x y),(A8,(qu8,qv8,qm8),z),(A6,(qu6,qv6,qm6),y),(A4,(qu4,qv4,qm4),x)])):=⟨_,_,rfl,rfl,(HG14.out.below hbm.out).add hie.out rfl⟩
        have HC15:Hid (Gd (InvOK x) (invE x) er15 r15):=hc.out
        clear hMu hie hbm hc a0 a1 a2
        have hMu:=Inv_any (HG15.out.el (A6,(qu6,qv6,qm6),y) (by simp)).2
        have a0:w15.cell? ⟨A6,0,none⟩=some (.pointer qu6):=by rw[jB (HG15.out.el (A6,(qu6,qv6,qm6),y) (by simp)).1];rfl
        have a1:w15.cell? ⟨A6,1,none⟩=some (.pointer qv6):=by rw[jB (HG15.out.el (A6,(qu6,qv6,qm6),y) (by simp)).1];rfl
        have a2:w15.cell? ⟨A6,2,none⟩=some (.pointer qm6):=by rw[jB (HG15.out.el (A6,(qu6,qv6,qm6),y) (by simp)).1];rfl
        go_wp2_with fail
        refine hMu.mono ?_
        rintro e wm ⟨qu16,qv16,qm16,er16,r16,rfl,hie,hbm,hc⟩
        obtain⟨w16,A16,hw16,hA16,HG16⟩:∃ w A,wm.alloc (.cells #[.pointer qu16,.pointer qv16,.pointer qm16] 28)=w∧wm.heap.size=A∧Hid (GE W w ((A,(qu16,qv16,qm16),r16)::[(A15,(qu15,qv15,qm15),r15),(A13,(qu13,qv13,qm13),r13),(A12,(qu12,qv12,qm12),r12),(A11,(qu11,qv11,qm11),timesE y z),(A10,(qu10,qv10,qm10),timesE x y),(A8,(qu8,qv8,qm8),z),(A6,(qu6,qv6,qm6),y),(A4,(qu4,qv4,qm4),x)])):=⟨_,_,rfl,rfl,(HG15.out.below hbm.out).add hie.out rfl⟩
        have HC16:Hid (Gd (InvOK y) (invE y) er16 r16):=hc.out
        clear hMu hie hbm hc a0 a1 a2
        have hMu:=Inv_any (HG16.out.el (A10,(qu10,qv10,qm10),(timesE x y)) (by simp)).2
        have a0:w16.cell? ⟨A10,0,none⟩=some (.pointer qu10):=by rw[jB (HG16.out.el (A10,(qu10,qv10,qm10),(timesE x y)) (by simp)).1];rfl
        have a1:w16.cell? ⟨A10,1,none⟩=some (.pointer qv10):=by rw[jB (HG16.out.el (A10,(qu10,qv10,qm10),(timesE x y)) (by simp)).1];rfl
        have a2:w16.cell? ⟨A10,2,none⟩=some (.pointer qm10):=by rw[jB (HG16.out.el (A10,(qu10,qv10,qm10),(timesE x y)) (by simp)).1];rfl
        go_wp2_with fail
        refine hMu.mono ?_
        rintro e wm ⟨qu17,qv17,qm17,er17,r17,rfl,hie,hbm,hc⟩
        obtain⟨w17,A17,hw17,hA17,HG17⟩:∃ w A,wm.alloc (.cells #[.pointer qu17,.pointer qv17,.pointer qm17] 28)=w∧wm.heap.size=A∧Hid (GE W w ((A,(qu17,qv17,qm17),r17)::[(A16,(qu16,qv16,qm16),r16),(A15,(qu15,qv15,qm15),r15),(A13,(qu13,qv13,qm13),r13),(A12,(qu12,qv12,qm12),r12),(A11,(qu11,qv11,qm11),timesE y z),(A10,(qu10,qv10,qm10),timesE x y),(A8,(qu8,qv8,qm8),z),(A6,(qu6,qv6,qm6),y),(A4,(qu4,qv4,qm4),x)])):=⟨_,_,rfl,rfl,(HG16.out.below hbm.out).add hie.out rfl⟩
        have HC17:Hid (Gd (InvOK (timesE x y)) (invE (timesE x y)) er17 r17):=hc.out
        clear hMu hie hbm hc a0 a1 a2
        rcases HC15.out with ⟨g15,-,s15⟩ | ⟨g15,-,-⟩
        rotate_left
        ·subst g15
         have hS:=jx w17
         go_wp2_with fail
         refine hS.mono ?_
         rintro e wz ⟨rfl,hbz⟩
         go_wp2_with fail
         go_ret
         exact⟨rfl,Below.trans' HG17.out.bl hbz.out⟩
        rcases HC16.out with ⟨g16,-,s16⟩ | ⟨g16,-,-⟩
        rotate_left
        ·subst g16
         subst g15
         have hS:=jx w17
         go_wp2_with fail
         refine hS.mono ?_
         rintro e wz ⟨rfl,hbz⟩
         go_wp2_with fail
         go_ret
         exact⟨rfl,Below.trans' HG17.out.bl hbz.out⟩
        rcases HC17.out with ⟨g17,-,s17⟩ | ⟨g17,-,-⟩
        rotate_left
        ·subst g17
         subst g15
         subst g16
         have hS:=jx w17
         go_wp2_with fail
         refine hS.mono ?_
         rintro e wz ⟨rfl,hbz⟩
         go_wp2_with fail
         go_ret
         exact⟨rfl,Below.trans' HG17.out.bl hbz.out⟩
        subst g15
        subst g16
        subst g17
        subst s15
        subst s16
        subst s17
        clear HC15 HC16 HC17
        have hMu:=Mul_any (HG17.out.el (A4,(qu4,qv4,qm4),x) (by simp)).2 (HG17.out.el (A15,(qu15,qv15,qm15),(invE x)) (by simp)).2
        have a0:w17.cell? ⟨A4,0,none⟩=some (.pointer qu4):=by rw[jB (HG17.out.el (A4,(qu4,qv4,qm4),x) (by simp)).1];rfl
        have a1:w17.cell? ⟨A4,1,none⟩=some (.pointer qv4):=by rw[jB (HG17.out.el (A4,(qu4,qv4,qm4),x) (by simp)).1];rfl
        have a2:w17.cell? ⟨A4,2,none⟩=some (.pointer qm4):=by rw[jB (HG17.out.el (A4,(qu4,qv4,qm4),x) (by simp)).1];rfl
        have b0:w17.cell? ⟨A15,0,none⟩=some (.pointer qu15):=by rw[jB (HG17.out.el (A15,(qu15,qv15,qm15),(invE x)) (by simp)).1];rfl
        have b1:w17.cell? ⟨A15,1,none⟩=some (.pointer qv15):=by rw[jB (HG17.out.el (A15,(qu15,qv15,qm15),(invE x)) (by simp)).1];rfl
        have b2:w17.cell? ⟨A15,2,none⟩=some (.pointer qm15):=by rw[jB (HG17.out.el (A15,(qu15,qv15,qm15),(invE x)) (by simp)).1];rfl
        go_wp2_with fail
        refine hMu.mono ?_
        rintro e wm ⟨qu18,qv18,qm18,er18,r18,rfl,hie,hbm,hc⟩
        obtain⟨w18,A18,hw18,hA18,HG18⟩:∃ w A,wm.alloc (.cells #[.pointer qu18,.pointer qv18,.pointer qm18] 28)=w∧wm.heap.size=A∧Hid (GE W w ((A,(qu18,qv18,qm18),r18)::[(A17,(qu17,qv17,qm17),invE (timesE x y)),(A16,(qu16,qv16,qm16),invE y),(A15,(qu15,qv15,qm15),invE x),(A13,(qu13,qv13,qm13),r13),(A12,(qu12,qv12,qm12),r12),(A11,(qu11,qv11,qm11),timesE y z),(A10,(qu10,qv10,qm10),timesE x y),(A8,(qu8,qv8,qm8),z),(A6,(qu6,qv6,qm6),y),(A4,(qu4,qv4,qm4),x)])):=⟨_,_,rfl,rfl,(HG17.out.below hbm.out).add hie.out rfl⟩
        have HC18:Hid (Gd (TimesOK x (invE x)) (timesE x (invE x)) er18 r18):=hc.out
        clear hMu hie hbm hc a0 a1 a2 b0 b1 b2
        have hMu:=Mul_any (HG18.out.el (A15,(qu15,qv15,qm15),(invE x)) (by simp)).2 (HG18.out.el (A4,(qu4,qv4,qm4),x) (by simp)).2
        have a0:w18.cell? ⟨A15,0,none⟩=some (.pointer qu15):=by rw[jB (HG18.out.el (A15,(qu15,qv15,qm15),(invE x)) (by simp)).1];rfl
        have a1:w18.cell? ⟨A15,1,none⟩=some (.pointer qv15):=by rw[jB (HG18.out.el (A15,(qu15,qv15,qm15),(invE x)) (by simp)).1];rfl
        have a2:w18.cell? ⟨A15,2,none⟩=some (.pointer qm15):=by rw[jB (HG18.out.el (A15,(qu15,qv15,qm15),(invE x)) (by simp)).1];rfl
        have b0:w18.cell? ⟨A4,0,none⟩=some (.pointer qu4):=by rw[jB (HG18.out.el (A4,(qu4,qv4,qm4),x) (by simp)).1];rfl
        have b1:w18.cell? ⟨A4,1,none⟩=some (.pointer qv4):=by rw[jB (HG18.out.el (A4,(qu4,qv4,qm4),x) (by simp)).1];rfl
        have b2:w18.cell? ⟨A4,2,none⟩=some (.pointer qm4):=by rw[jB (HG18.out.el (A4,(qu4,qv4,qm4),x) (by simp)).1];rfl
        go_wp2_with fail
        refine hMu.mono ?_
        rintro e wm ⟨qu19,qv19,qm19,er19,r19,rfl,hie,hbm,hc⟩
        obtain⟨w19,A19,hw19,hA19,HG19⟩:∃ w A,wm.alloc (.cells #[.pointer qu19,.pointer qv19,.pointer qm19] 28)=w∧wm.heap.size=A∧Hid (GE W w ((A,(qu19,qv19,qm19),r19)::[(A18,(qu18,qv18,qm18),r18),(A17,(qu17,qv17,qm17),invE (timesE x y)),(A16,(qu16,qv16,qm16),invE y),(A15,(qu15,qv15,qm15),invE x),(A13,(qu13,qv13,qm13),r13),(A12,(qu12,qv12,qm12),r12),(A11,(qu11,qv11,qm11),timesE y z),(A10,(qu10,qv10,qm10),timesE x y),(A8,(qu8,qv8,qm8),z),(A6,(qu6,qv6,qm6),y),(A4,(qu4,qv4,qm4),x)])):=⟨_,_,rfl,rfl,(HG18.out.below hbm.out).add hie.out rfl⟩
        have HC19:Hid (Gd (TimesOK (invE x) x) (timesE (invE x) x) er19 r19):=hc.out
        clear hMu hie hbm hc a0 a1 a2 b0 b1 b2
        have hMu:=Mul_any (HG19.out.el (A16,(qu16,qv16,qm16),(invE y)) (by simp)).2 (HG19.out.el (A15,(qu15,qv15,qm15),(invE x)) (by simp)).2
        have a0:w19.cell? ⟨A16,0,none⟩=some (.pointer qu16):=by rw[jB (HG19.out.el (A16,(qu16,qv16,qm16),(invE y)) (by simp)).1];rfl
        have a1:w19.cell? ⟨A16,1,none⟩=some (.pointer qv16):=by rw[jB (HG19.out.el (A16,(qu16,qv16,qm16),(invE y)) (by simp)).1];rfl
        have a2:w19.cell? ⟨A16,2,none⟩=some (.pointer qm16):=by rw[jB (HG19.out.el (A16,(qu16,qv16,qm16),(invE y)) (by simp)).1];rfl
        have b0:w19.cell? ⟨A15,0,none⟩=some (.pointer qu15):=by rw[jB (HG19.out.el (A15,(qu15,qv15,qm15),(invE x)) (by simp)).1];rfl
        have b1:w19.cell? ⟨A15,1,none⟩=some (.pointer qv15):=by rw[jB (HG19.out.el (A15,(qu15,qv15,qm15),(invE x)) (by simp)).1];rfl
        have b2:w19.cell? ⟨A15,2,none⟩=some (.pointer qm15):=by rw[jB (HG19.out.el (A15,(qu15,qv15,qm15),(invE x)) (by simp)).1];rfl
        go_wp2_with fail
        refine hMu.mono ?_
        rintro e wm ⟨qu20,qv20,qm20,er20,r20,rfl,hie,hbm,hc⟩
        obtain⟨w20,A20,hw20,hA20,HG20⟩:∃ w A,wm.alloc (.cells #[.pointer qu20,.pointer qv20,.pointer qm20] 28)=w∧wm.heap.size=A∧Hid (GE W w ((A,(qu20,qv20,qm20),r20)::[(A19,(qu19,qv19,qm19),r19),(A18,(qu18,qv18,qm18),r18),(A17,(qu17,qv17,qm17),invE (timesE x y)),(A16,(qu16,qv16,qm16),invE y),(A15,(qu15,qv15,qm15),invE x),(A13,(qu13,qv13,qm13),r13),(A12,(qu12,qv12,qm12),r12),(A11,(qu11,qv11,qm11),timesE y z),(A10,(qu10,qv10,qm10),timesE x y),(A8,(qu8,qv8,qm8),z),(A6,(qu6,qv6,qm6),y),(A4,(qu4,qv4,qm4),x)])):=⟨_,_,rfl,rfl,(HG19.out.below hbm.out).add hie.out rfl⟩
        have HC20:Hid (Gd (TimesOK (invE y) (invE x)) (timesE (invE y) (invE x)) er20 r20):=hc.out
        clear hMu hie hbm hc a0 a1 a2 b0 b1 b2
        have hS:=jx w20
        rcases HC18.out with ⟨g18,-,s18⟩ | ⟨g18,-,-⟩
        ·subst g18
         rw[timesE_invE x] at s18
         subst s18
         rcases HC19.out with ⟨g19,-,s19⟩ | ⟨g19,-,-⟩
         ·subst g19
          rw[invE_timesE x] at s19
          subst s19
          rcases HC20.out with ⟨g20,-,s20⟩ | ⟨g20,-,-⟩
          ·subst g20
           rw[invE_mul x y] at s20
           subst s20
           go_wp2_with fail
           refine hS.mono ?_
           rintro e w21 ⟨rfl,hb21⟩
           have HG21:=jH (HG20.out.below hb21.out)
           clear hb21
           have hU18:=isUnit_calls (HG21.out.el (A18,(qu18,qv18,qm18),⟨0,0,0⟩) (by simp)).2
           have a0:w21.cell? ⟨A18,0,none⟩=some (.pointer qu18):=by rw[jB (HG21.out.el (A18,(qu18,qv18,qm18),⟨0,0,0⟩) (by simp)).1];rfl
           have a1:w21.cell? ⟨A18,1,none⟩=some (.pointer qv18):=by rw[jB (HG21.out.el (A18,(qu18,qv18,qm18),⟨0,0,0⟩) (by simp)).1];rfl
           have a2:w21.cell? ⟨A18,2,none⟩=some (.pointer qm18):=by rw[jB (HG21.out.el (A18,(qu18,qv18,qm18),⟨0,0,0⟩) (by simp)).1];rfl
           go_wp2_with fail
           refine hU18.mono ?_
           rintro e w22 ⟨rfl,hb22⟩
           have HG22:=jH (HG21.out.below hb22.out)
           clear hU18 hb22 a0 a1 a2
           have hU19:=isUnit_calls (HG22.out.el (A19,(qu19,qv19,qm19),⟨0,0,0⟩) (by simp)).2
           have a0:w22.cell? ⟨A19,0,none⟩=some (.pointer qu19):=by rw[jB (HG22.out.el (A19,(qu19,qv19,qm19),⟨0,0,0⟩) (by simp)).1];rfl
           have a1:w22.cell? ⟨A19,1,none⟩=some (.pointer qv19):=by rw[jB (HG22.out.el (A19,(qu19,qv19,qm19),⟨0,0,0⟩) (by simp)).1];rfl
           have a2:w22.cell? ⟨A19,2,none⟩=some (.pointer qm19):=by rw[jB (HG22.out.el (A19,(qu19,qv19,qm19),⟨0,0,0⟩) (by simp)).1];rfl
           go_wp2_with fail
           refine hU19.mono ?_
           rintro e w23 ⟨rfl,hb23⟩
           have HG23:=jH (HG22.out.below hb23.out)
           clear hU19 hb23 a0 a1 a2
           have hU20:=equal_calls (HG23.out.el (A20,(qu20,qv20,qm20),invE (timesE x y)) (by simp)).2 (HG23.out.el (A17,(qu17,qv17,qm17),invE (timesE x y)) (by simp)).2
           rw[decide_eq_true (rfl:invE (timesE x y)=invE (timesE x y))] at hU20
           have a0:w23.cell? ⟨A20,0,none⟩=some (.pointer qu20):=by rw[jB (HG23.out.el (A20,(qu20,qv20,qm20),invE (timesE x y)) (by simp)).1];rfl
           have a1:w23.cell? ⟨A20,1,none⟩=some (.pointer qv20):=by rw[jB (HG23.out.el (A20,(qu20,qv20,qm20),invE (timesE x y)) (by simp)).1];rfl
           have a2:w23.cell? ⟨A20,2,none⟩=some (.pointer qm20):=by rw[jB (HG23.out.el (A20,(qu20,qv20,qm20),invE (timesE x y)) (by simp)).1];rfl
           have b0:w23.cell? ⟨A17,0,none⟩=some (.pointer qu17):=by rw[jB (HG23.out.el (A17,(qu17,qv17,qm17),invE (timesE x y)) (by simp)).1];rfl
           have b1:w23.cell? ⟨A17,1,none⟩=some (.pointer qv17):=by rw[jB (HG23.out.el (A17,(qu17,qv17,qm17),invE (timesE x y)) (by simp)).1];rfl
           have b2:w23.cell? ⟨A17,2,none⟩=some (.pointer qm17):=by rw[jB (HG23.out.el (A17,(qu17,qv17,qm17),invE (timesE x y)) (by simp)).1];rfl
           go_wp2_with fail
           refine hU20.mono ?_
           rintro e w24 ⟨rfl,hb24⟩
           have HG24:=jH (HG23.out.below hb24.out)
           clear hU20 hb24 a0 a1 a2 b0 b1 b2
           go_wp2_with fail
           go_ret
           exact⟨by first | rfl | simp,HG24.out.bl⟩
          ·subst g20
           go_wp2_with fail
           refine hS.mono ?_
           rintro e w21 ⟨rfl,hb21⟩
           have HG21:=jH (HG20.out.below hb21.out)
           clear hb21
           have hU18:=isUnit_calls (HG21.out.el (A18,(qu18,qv18,qm18),⟨0,0,0⟩) (by simp)).2
           have a0:w21.cell? ⟨A18,0,none⟩=some (.pointer qu18):=by rw[jB (HG21.out.el (A18,(qu18,qv18,qm18),⟨0,0,0⟩) (by simp)).1];rfl
           have a1:w21.cell? ⟨A18,1,none⟩=some (.pointer qv18):=by rw[jB (HG21.out.el (A18,(qu18,qv18,qm18),⟨0,0,0⟩) (by simp)).1];rfl
           have a2:w21.cell? ⟨A18,2,none⟩=some (.pointer qm18):=by rw[jB (HG21.out.el (A18,(qu18,qv18,qm18),⟨0,0,0⟩) (by simp)).1];rfl
           go_wp2_with fail
           refine hU18.mono ?_
           rintro e w22 ⟨rfl,hb22⟩
           have HG22:=jH (HG21.out.below hb22.out)
           clear hU18 hb22 a0 a1 a2
           have hU19:=isUnit_calls (HG22.out.el (A19,(qu19,qv19,qm19),⟨0,0,0⟩) (by simp)).2
           have a0:w22.cell? ⟨A19,0,none⟩=some (.pointer qu19):=by rw[jB (HG22.out.el (A19,(qu19,qv19,qm19),⟨0,0,0⟩) (by simp)).1];rfl
           have a1:w22.cell? ⟨A19,1,none⟩=some (.pointer qv19):=by rw[jB (HG22.out.el (A19,(qu19,qv19,qm19),⟨0,0,0⟩) (by simp)).1];rfl
           have a2:w22.cell? ⟨A19,2,none⟩=some (.pointer qm19):=by rw[jB (HG22.out.el (A19,(qu19,qv19,qm19),⟨0,0,0⟩) (by simp)).1];rfl
           go_wp2_with fail
           refine hU19.mono ?_
           rintro e w23 ⟨rfl,hb23⟩
           have HG23:=jH (HG22.out.below hb23.out)
           clear hU19 hb23 a0 a1 a2
           go_wp2_with fail
           go_ret
           exact⟨by first | rfl | simp,HG23.out.bl⟩
         ·subst g19
          rcases HC20.out with ⟨g20,-,s20⟩ | ⟨g20,-,-⟩
          ·subst g20
           rw[invE_mul x y] at s20
           subst s20
           go_wp2_with fail
           refine hS.mono ?_
           rintro e w21 ⟨rfl,hb21⟩
           have HG21:=jH (HG20.out.below hb21.out)
           clear hb21
           have hU18:=isUnit_calls (HG21.out.el (A18,(qu18,qv18,qm18),⟨0,0,0⟩) (by simp)).2
           have a0:w21.cell? ⟨A18,0,none⟩=some (.pointer qu18):=by rw[jB (HG21.out.el (A18,(qu18,qv18,qm18),⟨0,0,0⟩) (by simp)).1];rfl
           have a1:w21.cell? ⟨A18,1,none⟩=some (.pointer qv18):=by rw[jB (HG21.out.el (A18,(qu18,qv18,qm18),⟨0,0,0⟩) (by simp)).1];rfl
           have a2:w21.cell? ⟨A18,2,none⟩=some (.pointer qm18):=by rw[jB (HG21.out.el (A18,(qu18,qv18,qm18),⟨0,0,0⟩) (by simp)).1];rfl
           go_wp2_with fail
           refine hU18.mono ?_
           rintro e w22 ⟨rfl,hb22⟩
           have HG22:=jH (HG21.out.below hb22.out)
           clear hU18 hb22 a0 a1 a2
           have hU20:=equal_calls (HG22.out.el (A20,(qu20,qv20,qm20),invE (timesE x y)) (by simp)).2 (HG22.out.el (A17,(qu17,qv17,qm17),invE (timesE x y)) (by simp)).2
           rw[decide_eq_true (rfl:invE (timesE x y)=invE (timesE x y))] at hU20
           have a0:w22.cell? ⟨A20,0,none⟩=some (.pointer qu20):=by rw[jB (HG22.out.el (A20,(qu20,qv20,qm20),invE (timesE x y)) (by simp)).1];rfl
           have a1:w22.cell? ⟨A20,1,none⟩=some (.pointer qv20):=by rw[jB (HG22.out.el (A20,(qu20,qv20,qm20),invE (timesE x y)) (by simp)).1];rfl
           have a2:w22.cell? ⟨A20,2,none⟩=some (.pointer qm20):=by rw[jB (HG22.out.el (A20,(qu20,qv20,qm20),invE (timesE x y)) (by simp)).1];rfl
           have b0:w22.cell? ⟨A17,0,none⟩=some (.pointer qu17):=by rw[jB (HG22.out.el (A17,(qu17,qv17,qm17),invE (timesE x y)) (by simp)).1];rfl
           have b1:w22.cell? ⟨A17,1,none⟩=some (.pointer qv17):=by rw[jB (HG22.out.el (A17,(qu17,qv17,qm17),invE (timesE x y)) (by simp)).1];rfl
           have b2:w22.cell? ⟨A17,2,none⟩=some (.pointer qm17):=by rw[jB (HG22.out.el (A17,(qu17,qv17,qm17),invE (timesE x y)) (by simp)).1];rfl
           go_wp2_with fail
           refine hU20.mono ?_
           rintro e w23 ⟨rfl,hb23⟩
           have HG23:=jH (HG22.out.below hb23.out)
           clear hU20 hb23 a0 a1 a2 b0 b1 b2
           go_wp2_with fail
           go_ret
           exact⟨by first | rfl | simp,HG23.out.bl⟩
          ·subst g20
           go_wp2_with fail
           refine hS.mono ?_
           rintro e w21 ⟨rfl,hb21⟩
           have HG21:=jH (HG20.out.below hb21.out)
           clear hb21
           have hU18:=isUnit_calls (HG21.out.el (A18,(qu18,qv18,qm18),⟨0,0,0⟩) (by simp)).2
           have a0:w21.cell? ⟨A18,0,none⟩=some (.pointer qu18):=by rw[jB (HG21.out.el (A18,(qu18,qv18,qm18),⟨0,0,0⟩) (by simp)).1];rfl
           have a1:w21.cell? ⟨A18,1,none⟩=some (.pointer qv18):=by rw[jB (HG21.out.el (A18,(qu18,qv18,qm18),⟨0,0,0⟩) (by simp)).1];rfl
           have a2:w21.cell? ⟨A18,2,none⟩=some (.pointer qm18):=by rw[jB (HG21.out.el (A18,(qu18,qv18,qm18),⟨0,0,0⟩) (by simp)).1];rfl
           go_wp2_with fail
           refine hU18.mono ?_
           rintro e w22 ⟨rfl,hb22⟩
           have HG22:=jH (HG21.out.below hb22.out)
           clear hU18 hb22 a0 a1 a2
           go_wp2_with fail
           go_ret
           exact⟨by first | rfl | simp,HG22.out.bl⟩
        ·subst g18
         rcases HC19.out with ⟨g19,-,s19⟩ | ⟨g19,-,-⟩
         ·subst g19
          rw[invE_timesE x] at s19
          subst s19
          rcases HC20.out with ⟨g20,-,s20⟩ | ⟨g20,-,-⟩
          ·subst g20
           rw[invE_mul x y] at s20
           subst s20
           go_wp2_with fail
           refine hS.mono ?_
           rintro e w21 ⟨rfl,hb21⟩
           have HG21:=jH (HG20.out.below hb21.out)
           clear hb21
           have hU19:=isUnit_calls (HG21.out.el (A19,(qu19,qv19,qm19),⟨0,0,0⟩) (by simp)).2
           have a0:w21.cell? ⟨A19,0,none⟩=some (.pointer qu19):=by rw[jB (HG21.out.el (A19,(qu19,qv19,qm19),⟨0,0,0⟩) (by simp)).1];rfl
           have a1:w21.cell? ⟨A19,1,none⟩=some (.pointer qv19):=by rw[jB (HG21.out.el (A19,(qu19,qv19,qm19),⟨0,0,0⟩) (by simp)).1];rfl
           have a2:w21.cell? ⟨A19,2,none⟩=some (.pointer qm19):=by rw[jB (HG21.out.el (A19,(qu19,qv19,qm19),⟨0,0,0⟩) (by simp)).1];rfl
           go_wp2_with fail
           refine hU19.mono ?_
           rintro e w22 ⟨rfl,hb22⟩
           have HG22:=jH (HG21.out.below hb22.out)
           clear hU19 hb22 a0 a1 a2
           have hU20:=equal_calls (HG22.out.el (A20,(qu20,qv20,qm20),invE (timesE x y)) (by simp)).2 (HG22.out.el (A17,(qu17,qv17,qm17),invE (timesE x y)) (by simp)).2
           rw[decide_eq_true (rfl:invE (timesE x y)=invE (timesE x y))] at hU20
           have a0:w22.cell? ⟨A20,0,none⟩=some (.pointer qu20):=by rw[jB (HG22.out.el (A20,(qu20,qv20,qm20),invE (timesE x y)) (by simp)).1];rfl
           have a1:w22.cell? ⟨A20,1,none⟩=some (.pointer qv20):=by rw[jB (HG22.out.el (A20,(qu20,qv20,qm20),invE (timesE x y)) (by simp)).1];rfl
           have a2:w22.cell? ⟨A20,2,none⟩=some (.pointer qm20):=by rw[jB (HG22.out.el (A20,(qu20,qv20,qm20),invE (timesE x y)) (by simp)).1];rfl
           have b0:w22.cell? ⟨A17,0,none⟩=some (.pointer qu17):=by rw[jB (HG22.out.el (A17,(qu17,qv17,qm17),invE (timesE x y)) (by simp)).1];rfl
           have b1:w22.cell? ⟨A17,1,none⟩=some (.pointer qv17):=by rw[jB (HG22.out.el (A17,(qu17,qv17,qm17),invE (timesE x y)) (by simp)).1];rfl
           have b2:w22.cell? ⟨A17,2,none⟩=some (.pointer qm17):=by rw[jB (HG22.out.el (A17,(qu17,qv17,qm17),invE (timesE x y)) (by simp)).1];rfl
           go_wp2_with fail
           refine hU20.mono ?_
           rintro e w23 ⟨rfl,hb23⟩
           have HG23:=jH (HG22.out.below hb23.out)
           clear hU20 hb23 a0 a1 a2 b0 b1 b2
           go_wp2_with fail
           go_ret
           exact⟨by first | rfl | simp,HG23.out.bl⟩
          ·subst g20
           go_wp2_with fail
           refine hS.mono ?_
           rintro e w21 ⟨rfl,hb21⟩
           have HG21:=jH (HG20.out.below hb21.out)
           clear hb21
           have hU19:=isUnit_calls (HG21.out.el (A19,(qu19,qv19,qm19),⟨0,0,0⟩) (by simp)).2
           have a0:w21.cell? ⟨A19,0,none⟩=some (.pointer qu19):=by rw[jB (HG21.out.el (A19,(qu19,qv19,qm19),⟨0,0,0⟩) (by simp)).1];rfl
           have a1:w21.cell? ⟨A19,1,none⟩=some (.pointer qv19):=by rw[jB (HG21.out.el (A19,(qu19,qv19,qm19),⟨0,0,0⟩) (by simp)).1];rfl
           have a2:w21.cell? ⟨A19,2,none⟩=some (.pointer qm19):=by rw[jB (HG21.out.el (A19,(qu19,qv19,qm19),⟨0,0,0⟩) (by simp)).1];rfl
           go_wp2_with fail
           refine hU19.mono ?_
           rintro e w22 ⟨rfl,hb22⟩
           have HG22:=jH (HG21.out.below hb22.out)
           clear hU19 hb22 a0 a1 a2
           go_wp2_with fail
           go_ret
           exact⟨by first | rfl | simp,HG22.out.bl⟩
         ·subst g19
          rcases HC20.out with ⟨g20,-,s20⟩ | ⟨g20,-,-⟩
          ·subst g20
           rw[invE_mul x y] at s20
           subst s20
           go_wp2_with fail
           refine hS.mono ?_
           rintro e w21 ⟨rfl,hb21⟩
           have HG21:=jH (HG20.out.below hb21.out)
           clear hb21
           have hU20:=equal_calls (HG21.out.el (A20,(qu20,qv20,qm20),invE (timesE x y)) (by simp)).2 (HG21.out.el (A17,(qu17,qv17,qm17),invE (timesE x y)) (by simp)).2
           rw[decide_eq_true (rfl:invE (timesE x y)=invE (timesE x y))] at hU20
           have a0:w21.cell? ⟨A20,0,none⟩=some (.pointer qu20):=by rw[jB (HG21.out.el (A20,(qu20,qv20,qm20),invE (timesE x y)) (by simp)).1];rfl
           have a1:w21.cell? ⟨A20,1,none⟩=some (.pointer qv20):=by rw[jB (HG21.out.el (A20,(qu20,qv20,qm20),invE (timesE x y)) (by simp)).1];rfl
           have a2:w21.cell? ⟨A20,2,none⟩=some (.pointer qm20):=by rw[jB (HG21.out.el (A20,(qu20,qv20,qm20),invE (timesE x y)) (by simp)).1];rfl
           have b0:w21.cell? ⟨A17,0,none⟩=some (.pointer qu17):=by rw[jB (HG21.out.el (A17,(qu17,qv17,qm17),invE (timesE x y)) (by simp)).1];rfl
           have b1:w21.cell? ⟨A17,1,none⟩=some (.pointer qv17):=by rw[jB (HG21.out.el (A17,(qu17,qv17,qm17),invE (timesE x y)) (by simp)).1];rfl
           have b2:w21.cell? ⟨A17,2,none⟩=some (.pointer qm17):=by rw[jB (HG21.out.el (A17,(qu17,qv17,qm17),invE (timesE x y)) (by simp)).1];rfl
           go_wp2_with fail
           refine hU20.mono ?_
           rintro e w22 ⟨rfl,hb22⟩
           have HG22:=jH (HG21.out.below hb22.out)
           clear hU20 hb22 a0 a1 a2 b0 b1 b2
           go_wp2_with fail
           go_ret
           exact⟨by first | rfl | simp,HG22.out.bl⟩
          ·subst g20
           go_wp2_with fail
           refine hS.mono ?_
           rintro e w21 ⟨rfl,hb21⟩
           have HG21:=jH (HG20.out.below hb21.out)
           clear hb21
           go_wp2_with fail
           go_ret
           exact⟨by first | rfl | simp,HG21.out.bl⟩
end Sr
namespace Sr
open Go Go.Proofs Go.RowKit Go.ChangeShapes Go.WideShapes
theorem RIn.up {w:World}: ∀ {n m:Nat} {v:Value} {l:List Raw},RIn w n v l→n≤m→RIn w m v l
 | 0,_,_,_,h,_=>h.elim
 | n+1,0,_,_,_,h=>absurd h (by omega)
 | n+1,m+1,v,l,h,hm=>by
   obtain⟨h0,a,c,h1,h2⟩:=h
   refine⟨h0,a,c,h1,fun j r hr=>?_⟩
   obtain⟨g,off,u,k1,k2,k3,k4⟩:=h2 j r hr
   exact⟨g,off,u,k1,k2,k3,RIn.up k4 (by omega)⟩
theorem all_le (f:Nat→Nat): ∀ n,∃ M,∀ i,i<n→f i≤M
 | 0=>⟨0,fun i h=>absurd h (by omega)⟩
 | n+1=>by
   obtain⟨M,h⟩:=all_le f n
   refine⟨M+f n,fun i hi=>?_⟩
   rcases Nat.lt_or_ge i n with h1 | h1
   ·have:=h i h1; omega
   ·obtain rfl:i=n:=by omega
    omega
theorem weights_mem {H:Type}{P:Program}{e:TypeId}: ∀ {ds:List (DataW H)} {d:DataW H},d∈ds→∀ n∈d.weights P e,n∈DataW.weightsAll P e ds
 | d0::ds,d,h,n,hn=>by
   simp only[DataW.weightsAll,List.mem_append]
   rcases List.mem_cons.1 h with rfl | h
   ·exact .inl hn
   ·exact .inr (weights_mem h n hn)
 | [],_,h,_,_=>by simp at h
theorem raw_of {W:World}{H:Type}{enc:TypeId×Value→H}: ∀ (N:Nat) (D:DataW H),sizeOf D≤N→∀ (n:Nat) (u:Value) (Pl:List MemPlace),DataW.trod enc Tryz.prog W 0 (fun _=>true) true n 86 [u]=some (D,Pl)→(∀ k∈D.weights Tryz.prog 86,k≤reachBytes)→∃ m l,RIn W m u l:=by
 intro N
 induction N with
 | zero =>
   intro D hD
   cases D <;>simp at hD
 | succ N ih =>
   intro D hD n u Pl h hsz
   rcases Go.Deep.open_slice_pairs Tryz.underlying86 Tryz.underlying177 (by kernel_rfl) rfl rfl (by kernel_rfl) (by kernel_rfl) h with ⟨hcs,_⟩ | ⟨a,len,cap,m,n',V0,V1,D0,D1,P0,P1,hcs,_,hl,hm,hmm,hd,hx⟩
   ·simp at hcs
    subst hcs
    exact⟨1,[],by simp,none,0,rfl,fun j r hr=>by simp at hr⟩
   ·simp at hcs
    subst hcs
    have hlm:len≤m:=by rw[hmm];split <;>omega
    have hd':D=.slice ((List.range len).map fun i=>.agg [D0 i,D1 i]) ((List.range (m - len)).map fun j=>.agg [D0 (len+j),D1 (len+j)]):=(Prod.mk.inj hd).1
    have hlen:len≤140737488355328:=by
     have hmem:(len+(m - len))*Tryz.prog.bytesOf 177∈D.weights Tryz.prog 86:=by
      rw[hd']
      simp only[DataW.weights,Tryz.underlying86,List.mem_cons,List.length_map,List.length_range]
      exact .inl trivial
     have h1:=hsz _ hmem
     have h2:Tryz.prog.bytesOf 177=32:=by kernel_rfl
     have h3:=reachBytes_lt
     rw[h2] at h1
     omega
    have each:∀ i,∃ q:Bool×Nat×List Raw,i<len→V0 i=.bool q.1∧RIn W q.2.1 (V1 i) q.2.2:=fun i=>by
     by_cases hi:i<len
     ·obtain⟨_,_,h3,h4⟩:=hx i (by omega)
      obtain⟨b,e1,_⟩:=DataW.trod_bool Tryz.underlying4 h3
      simp at e1
      have hin:DataW.agg [D0 i,D1 i]∈(List.range len).map fun i=>DataW.agg [D0 i,D1 i]:=List.mem_map.2 ⟨i,List.mem_range.2 hi,rfl⟩
      have hs1:=List.sizeOf_lt_of_mem hin
      have hs2:sizeOf (D1 i)<sizeOf (DataW.agg [D0 i,D1 i]):=by simp; omega
      have hs3:sizeOf ((List.range len).map fun i=>DataW.agg [D0 i,D1 i])<sizeOf D:=by rw[hd'];simp; omega
      obtain⟨k,l,hl⟩:=ih (D1 i) (by omega) _ _ _ h4 (fun k hk=>hsz k (by
       rw[hd']
       simp only[DataW.weights,Tryz.underlying86,List.mem_cons,List.mem_append]
       refine .inr (.inl (weights_mem hin _ ?_))
       simp only[DataW.weights,Tryz.underlying177,List.map_cons,List.map_nil,DataW.weightsEach,List.mem_append]
       exact .inr (.inl hk)))
      exact⟨(b,k,l),fun _=>⟨e1,hl⟩⟩
     ·exact⟨(false,0,[]),fun h=>absurd h hi⟩
    obtain⟨f,hf⟩:=Classical.skolem.1 each
    obtain⟨M,hM⟩:=all_le (fun i=>(f i).2.1) len
    refine⟨M+1,(List.range len).map fun i=>.t (f i).1 (f i).2.2,by simpa using hlen,some a,cap,by simp,fun j r hr=>?_⟩
    rw[List.getElem?_map] at hr
    have hj:j<len:=by
     rcases Nat.lt_or_ge j len with h | h
     ·exact h
     ·rw[List.getElem?_eq_none (by simpa using h)] at hr; cases hr
    rw[List.getElem?_range hj] at hr
    simp at hr
    subst hr
    obtain⟨c0,c1,_,_⟩:=hx j (by omega)
    obtain⟨e0,e1⟩:=hf j hj
    obtain⟨g,off,spot⟩:=a
    have hspot:spot=none:=by simpa [Addr.add] using World.cell?_spot (hx 0 (by omega)).1
    subst hspot
    rw[Addr.add_lit] at c0 c1
    exact⟨g,off,V1 j,rfl,by rw[c0,e0];rfl,by rw[Nat.add_assoc];exact c1,RIn.up e1 (hM j hj)⟩
theorem three_of {W:World}{base:Nat}{H:Type}{enc:TypeId×Value→H}{v:Value}{d:DataW H}{p:List MemPlace}(hval:Value.okWide Tryz.prog W .any base 88 v)(h:DataW.Trod enc Tryz.prog W 0 (fun _=>true) true 88 v d p) 
 (hsz:∀ n∈d.weights Tryz.prog 88,n≤reachBytes):TIn W v:=by
 obtain⟨cs,rfl,hcs⟩:=okWide_struct Tryz.underlying88 hval
 have h3:Tryz.prog.cellsOf 88=3:=by kernel_rfl
 have h1:Tryz.prog.cellsOf 86=1:=by kernel_rfl
 rw[h3] at hcs
 obtain⟨u0,u1,u2,rfl⟩:∃ a b c,cs=#[a,b,c]:=by
  obtain⟨l⟩:=cs
  match l,hcs with
  | [a,b,c],_=>exact⟨a,b,c,rfl⟩
 obtain⟨fuel,hf⟩:=h
 obtain⟨y0,y1,y2,n,hxy,_,g0,g1,g2⟩:=Go.Deep.trod_struct3 Tryz.underlying88 hf
 have hd:d=.agg [y0.1,y1.1,y2.1]:=(Prod.mk.inj hxy).1
 simp[Value.cells,h1] at g0 g1 g2
 have hw:∀ (y:DataW H×List MemPlace),y=y0∨y=y1∨y=y2→∀ k∈y.1.weights Tryz.prog 86,k≤reachBytes:=fun y hy k hk=>hsz k (by
  rw[hd]
  simp only[DataW.weights,Tryz.underlying88,List.map_cons,List.map_nil,DataW.weightsEach,List.mem_append]
  rcases hy with rfl | rfl | rfl
  ·exact .inl hk
  ·exact .inr (.inl hk)
  ·exact .inr (.inr (.inl hk)))
 obtain⟨m0,l0,r0⟩:=raw_of _ y0.1 (jR _) n u0 y0.2 g0 (hw y0 (.inl rfl))
 obtain⟨m1,l1,r1⟩:=raw_of _ y1.1 (jR _) n u1 y1.2 g1 (hw y1 (.inr (.inl rfl)))
 obtain⟨m2,l2,r2⟩:=raw_of _ y2.1 (jR _) n u2 y2.2 g2 (hw y2 (.inr (.inr rfl)))
 obtain⟨a0,c0,rfl⟩:=r0.shape
 obtain⟨a1,c1,rfl⟩:=r1.shape
 obtain⟨a2,c2,rfl⟩:=r2.shape
 exact⟨_,_,_,_,_,_,_,_,_,_,_,_,_,_,_,rfl,r0,r1,r2⟩
end Sr
