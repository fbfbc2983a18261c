/- Texts of this claim, joined: SamW. -/
import Derived.Test.YtabafgphmbdpgaaGreatDoorTd1
import Derived.Test.YtabafgphmbdpgaaGreatDoorTd32
import Derived.Test.YtabafgphmbdpgaaGreatDoorTd33
import Derived.Test.YtabafgphmbdpgaaGreatDoorTd36
set_option maxHeartbeats 8000000
set_option maxRecDepth 100000
namespace Sr
open Go Go.Proofs Go.RowKit Go.Maps Go.WideMaps
def tB:Option RedR→Bool
 | some (_,o,G)=>unitE o G
 | none=>false
def tE:Option RedR→Int
 | some _=>0
 | none=>5
noncomputable def smB (u v:List UInt8): Bool:=isWordL u&&isWordL v&&tB (traceE (u++invL v))
noncomputable def smE (u v:List UInt8): Int:=if isWordL u&&isWordL v then tE (traceE (u++invL v)) else 2
theorem sameU {W:World}{u v:ByteArray}(hu:u.size≤9223372036854775807)(hv:v.size≤9223372036854775807):
 Calls Tryz.prog 23 #[.string u,.string v] W fun e W'=>e=.returned (.tuple #[.bool (smB u.data.toList v.data.toList),.int .i64 (smE u.data.toList v.data.toList)])∧Hid (Below W.heap.size W W'):=by
 refine (Same_any hu hv).mono ?_
 rintro e W' ⟨hb,⟨h | h,rfl⟩ | ⟨h1,h2,⟨st,o,G,h3,rfl⟩ | ⟨h3,rfl⟩⟩⟩
 ·refine⟨?_,hb⟩;unfold smB smE; rw[h];rfl
 ·refine⟨?_,hb⟩;unfold smB smE; rw[h,Bool.and_false];rfl
 ·refine⟨?_,hb⟩;unfold smB smE; rw[h1,h2,h3];rfl
 ·refine⟨?_,hb⟩;unfold smB smE; rw[h1,h2,h3];rfl
theorem sm_lt {u v:List UInt8}(hu:isWordL u=true)(hv:isWordL v=true): Lt (u++invL v):=fun c hc=>by
 rcases List.mem_append.1 hc with h | h
 ·exact zQ.1 (jf.1 hu).1 c h
 ·exact invL_lt (zQ.1 (jf.1 hv).1) c h
theorem sm_act {u v:List UInt8}(hu:isWordL u=true)(hv:isWordL v=true)(h:smE u v=0): smB u v=true↔actW (u++invL v) base=base:=by
 unfold smE at h
 rw[hu,hv] at h
 unfold smB
 rw[hu,hv]
 cases hr:traceE (u++invL v) with
 | none=>rw[hr] at h; exact absurd h (by decide)
 | some r =>
   obtain⟨st,o,G⟩:=r
   exact (trace_act (sm_lt hu hv) hr).2.2.1
theorem act_back {a b:List UInt8}(ha:Lt a)(hb:Lt b)(h:actW (a++invL b) base=base): actW (b++invL a) base=base:=by
 rw[actW_append] at h ⊢
 have ok0:Ok base.2:=trivial
 have h1:=congrArg (actW (invL a)) h
 rw[actW_inv ha (actW_ok ok0)] at h1
 rw[← h1,actW_inv' hb ok0]
theorem sm_sym {u v:List UInt8}(h1:smE u v=0)(h2:smE v u=0): smB u v=smB v u:=by
 by_cases hu:isWordL u=true
 ·by_cases hv:isWordL v=true
  ·rw[Bool.eq_iff_iff,sm_act hu hv h1,sm_act hv hu h2]
   have a:=zQ.1 (jf.1 hu).1
   have b:=zQ.1 (jf.1 hv).1
   exact⟨act_back a b,act_back b a⟩
  ·unfold smB; simp[hv]
 ·unfold smB; simp[hu]
theorem sm_self {u:List UInt8}(h:smE u u=0)(hu:isWordL u=true): smB u u=true:=by
 rw[sm_act hu hu h,actW_append]
 exact actW_inv' (zQ.1 (jf.1 hu).1) trivial
theorem three_zero' {vs:List Int}(hw:WV vs){x:E3}{eu ev em:Nat}(h:AtE vs x eu ev em): (decide (eu=0)&&decide (ev=0)&&decide (em=0))=decide (x=Zero):=by
 rw[Bool.eq_iff_iff,Bool.and_eq_true,Bool.and_eq_true,decide_eq_true_eq,decide_eq_true_eq,decide_eq_true_eq,decide_eq_true_eq,hw.same h.u hw.zero,hw.same h.v hw.zero,hw.same h.m hw.zero,E3.eq_iff]
 constructor
 ·rintro⟨⟨a,b⟩,c⟩;exact⟨a,b,c⟩
 ·rintro⟨a,b,c⟩;exact⟨⟨a,b⟩,c⟩
theorem unit_left {vs:List Int}(hw:WV vs){R:Option RedR}{left:Nat}{x:E3}{eu ev em:Nat}(ha:AtE vs x eu ev em)(h:∃ st o G,R=some (st,o,G)∧left=o.length∧x=endE o G):
 (decide (left=0)&&(decide (eu=0)&&decide (ev=0)&&decide (em=0)))=tB R:=by
 obtain⟨st,o,G,rfl,rfl,rfl⟩:=h
 rw[three_zero' hw ha]
 unfold tB unitE
 cases o <;>simp
theorem same_law {W:World}{u v:ByteArray}(hu:u.size≤9223372036854775807)(hv:v.size≤9223372036854775807): Calls Tryz.prog 5 #[.string u,.string v] W fun e W'=>e=.returned (.bool true)∧Hid (Below W.heap.size W W'):=by
 obtain⟨ba,qa⟩:∃ b,decide ((60:Int)<(u.size:Int))=b:=⟨_,rfl⟩
 obtain⟨bb,qb⟩:∃ b,decide ((u.size:Int)≤400)=b:=⟨_,rfl⟩
 obtain⟨bc,qc⟩:∃ b,decide ((60:Int)<(v.size:Int))=b:=⟨_,rfl⟩
 obtain⟨bd,qd⟩:∃ b,decide ((v.size:Int)≤400)=b:=⟨_,rfl⟩
 have HQ:Hid (decide ((60:Int)<(u.size:Int))=ba∧decide ((u.size:Int)≤400)=bb∧decide ((60:Int)<(v.size:Int))=bc∧decide ((v.size:Int)≤400)=bd):=⟨qa,qb,qc,qd⟩
 obtain⟨bz,hbz⟩:∃ b,(ba&&bb||bc&&bd)=b:=⟨_,rfl⟩
 have Hbz:=jH hbz
 have hS:=jx W
 have hA:=sameU (W:=W) hu hv
 obtain⟨b1,hb1⟩:∃ b,b=smB u.data.toList v.data.toList:=⟨_,rfl⟩
 obtain⟨e1,he1⟩:∃ b,b=smE u.data.toList v.data.toList:=⟨_,rfl⟩
 obtain⟨b2,hb2⟩:∃ b,b=smB v.data.toList u.data.toList:=⟨_,rfl⟩
 obtain⟨e2,he2⟩:∃ b,b=smE v.data.toList u.data.toList:=⟨_,rfl⟩
 obtain⟨b3,hb3⟩:∃ b,b=smB u.data.toList u.data.toList:=⟨_,rfl⟩
 obtain⟨e3,he3⟩:∃ b,b=smE u.data.toList u.data.toList:=⟨_,rfl⟩
 have HB:=jH (fun w=>sameU (W:=w) hv hu)
 have HC:=jH (fun w=>sameU (W:=w) hu hu)
 rw[← hb1,← he1] at hA
 rw[← hb2,← he2] at HB
 rw[← hb3,← he3] at HC
 have H1:=jH hb1
 have H2:=jH he1
 have H3:=jH hb2
 have H4:=jH he2
 have H5:=jH hb3
 have H6:=jH he3
 clear hb1 he1 hb2 he2 hb3 he3
 have HI:=jH (fun w=>yU (W:=w) hu (n:=400) (by decide))
 have HJ:=jH (fun w=>yU (W:=w) hv (n:=400) (by decide))
 clear hbz
 go_enter Tryz.func5,Tryz.ntmps5
 go_upto_region 1 with fail
 go_cut [29] from 12 to 29 (fun v29 wq=>v29=.bool bz∧wq=W)
 case first =>
  clear HQ hS hA
  cases ba <;>cases bb <;>cases bc <;>cases bd
  all_goals
   have hz:=Hbz.out
   simp only[Bool.and_true,Bool.and_false,Bool.or_false,Bool.or_true,Bool.and_self,Bool.or_self] at hz
   subst hz
   go_wp2_with fail
   go_meet
   case rel=>exact⟨rfl,rfl⟩
 case rest =>
  obtain⟨rfl,rfl⟩:=hcut
  obtain⟨W,rfl⟩:∃ W,W=wc:=⟨_,rfl⟩
  clear qa qb qc qd
  cases bz with
  | true =>
    go_wp2_with fail
    refine hS.mono ?_
    rintro e w1 ⟨rfl,hb1⟩
    go_wp2_with fail
    go_ret
    exact⟨rfl,hb1⟩
  | false =>
    have HZ:Hid (¬ (60<u.size∧u.size≤400)∧¬ (60<v.size∧v.size≤400)):=by
     obtain⟨h1,h2,h3,h4⟩:=HQ.out
     have h5:=Hbz.out
     rw[← h1,← h2,← h3,← h4,Bool.or_eq_false_iff,← Bool.decide_and,← Bool.decide_and,decide_eq_false_iff_not,decide_eq_false_iff_not] at h5
     exact⟨fun ⟨a,b⟩=>h5.1 ⟨by omega,by omega⟩,fun ⟨a,b⟩=>h5.2 ⟨by omega,by omega⟩⟩
    clear hS HQ Hbz
    have hwu:(isLt u.data.toList&&decide (u.size≤400))=isWordL u.data.toList:=by
     have h1:u.data.toList.length=u.size:=by simp
     rw[Bool.eq_iff_iff,Bool.and_eq_true,decide_eq_true_eq,jf,h1]
    have hwv:(isLt v.data.toList&&decide (v.size≤400))=isWordL v.data.toList:=by
     have h1:v.data.toList.length=v.size:=by simp
     rw[Bool.eq_iff_iff,Bool.and_eq_true,decide_eq_true_eq,jf,h1]
    rw[hwu] at HI
    rw[hwv] at HJ
    clear hwu hwv
    obtain⟨wu,hwu⟩:∃ b,isWordL u.data.toList=b:=⟨_,rfl⟩
    obtain⟨wv,hwv⟩:∃ b,isWordL v.data.toList=b:=⟨_,rfl⟩
    rw[hwu] at HI
    rw[hwv] at HJ
    have Hwu:=jH hwu
    have Hwv:=jH hwv
    clear hwu hwv
    go_wp2_with fail
    refine hA.mono ?_
    rintro e w1 ⟨rfl,hb1⟩
    have hB:=HB.out w1
    have HB1:=jH hb1.out
    clear hA hb1
    go_wp2_with fail
    refine hB.mono ?_
    rintro e w2 ⟨rfl,hb2⟩
    have hI:=HI.out w2
    have HB2:=jH (Below.trans' HB1.out hb2.out)
    clear hB hb2
    go_wp2_with fail
    refine hI.mono ?_
    rintro e w3 ⟨rfl,hb3⟩
    have HB3:=jH (Below.trans' HB2.out hb3.out)
    clear hI hb3
    cases wu with
    | false =>
      obtain rfl:b1=false:=by rw[H1.out];unfold smB; rw[Hwu.out];rfl
      obtain rfl:e1=2:=by rw[H2.out];unfold smE; rw[Hwu.out];rfl
      obtain rfl:b2=false:=by rw[H3.out];unfold smB; rw[Hwu.out,Bool.and_false];rfl
      obtain rfl:e2=2:=by rw[H4.out];unfold smE; rw[Hwu.out,Bool.and_false];rfl
      have hS:=jx w3
      go_wp2_with fail
      refine hS.mono ?_
      rintro e ws ⟨rfl,hbs⟩
      go_wp2_with fail
      go_ret
      exact⟨by first | rfl | simp,Below.trans' HB3.out hbs.out⟩
    | true =>
      have hJ:=HJ.out w3
      go_wp2_with fail
      refine hJ.mono ?_
      rintro e w4 ⟨rfl,hb4⟩
      have HB4:=jH (Below.trans' HB3.out hb4.out)
      clear hJ hb4
      cases wv with
      | false =>
        obtain rfl:b1=false:=by rw[H1.out];unfold smB; rw[Hwv.out,Bool.and_false];rfl
        obtain rfl:e1=2:=by rw[H2.out];unfold smE; rw[Hwv.out,Bool.and_false];rfl
        obtain rfl:b2=false:=by rw[H3.out];unfold smB; rw[Hwv.out];rfl
        obtain rfl:e2=2:=by rw[H4.out];unfold smE; rw[Hwv.out];rfl
        have hS:=jx w4
        go_wp2_with fail
        refine hS.mono ?_
        rintro e ws ⟨rfl,hbs⟩
        go_wp2_with fail
        go_ret
        exact⟨by first | rfl | simp,Below.trans' HB4.out hbs.out⟩
      | true =>
        have hu60:u.size≤60:=by
         have h1:=(jf.1 Hwu.out).2
         have h2:u.data.toList.length=u.size:=by simp
         have:=HZ.out.1
         omega
        have hv60:v.size≤60:=by
         have h1:=(jf.1 Hwv.out).2
         have h2:v.data.toList.length=v.size:=by simp
         have:=HZ.out.2
         omega
        have hN:=xM w4
        have HV:=jH (fun w=>inv5_calls (W:=w) (s:=v) (by omega) (zQ.1 (jf.1 Hwv.out).1))
        obtain⟨Z,hZ⟩:∃ Z:ByteArray,Z=⟨(invL v.data.toList).toArray⟩:=⟨_,rfl⟩
        rw[← hZ] at HV
        have hZl:Z.data.toList=invL v.data.toList:=by rw[hZ]
        have hZs:Z.size=v.size:=by
         have h1:Z.data.toList.length=v.data.toList.length:=by rw[hZl];simp[invL]
         simpa using h1
        have hcat:¬ (9223372036854775807<u.size+Z.size):=by omega
        have HOl:Hid ((u++Z).data.toList=u.data.toList++invL v.data.toList):=by show _=_; rw[join_list,hZl]
        have HOz:Hid ((u++Z).size≤130):=by show _≤_; rw[join_size];omega
        have HOt:Hid (isLt (u++Z).data.toList=true):=by show _=_; rw[HOl.out];exact zQ.2 (sm_lt Hwu.out Hwv.out)
        clear hZ hZl hZs
        go_wp2_with fail
        refine hN.mono ?_
        rintro e w5 ⟨p,fv,fl,rfl,hrw,hb5,hnew⟩
        have hV:=HV.out w5
        have HB5:=jH (Below.trans' HB4.out hb5.out)
        have Hrw:=jH hrw.out
        have Hnew:=jH hnew.out
        clear hN hrw hb5 hnew
        go_wp2_with fail
        refine hV.mono ?_
        rintro e w6 ⟨rfl,hb6⟩
        have HB6:=jH (Below.trans' HB5.out hb6.out)
        have hR:=rred_calls (Hrw.out.below hb6.out) (s:=u++Z) HOz.out HOt.out (by decide)
        obtain⟨R,hRR⟩:∃ R,R=traceE (u++Z).data.toList:=⟨_,rfl⟩
        rw[← hRR] at hR
        have HRR:=jH hRR
        clear hV hb6 hRR hu60 hv60
        go_wp2_with fail
        refine hR.mono ?_
        rintro e w7 ⟨sa,sn,sc,left,eu,ev,em,er,C7,fv7,fl7,vs7,rfl,hf7,hr7,ho7⟩
        have HB7:Hid (Below W.heap.size W w7):=jy HB6.out (jR _) (fun b hb=>Nat.le_trans HB4.out.size (Hnew.out b (rF_rB hb))) hf7.out
        obtain⟨w8,hw8⟩:∃ w8,w7.alloc (.cells #[.slice sa sn sc,.int .i64 (left:Nat),.int .i64 (eu:Nat),.int .i64 (ev:Nat),.int .i64 (em:Nat),.int .i64 er] 37)=w8:=⟨_,rfl⟩
        obtain⟨D9,hD9⟩:∃ D,w7.heap.size=D:=⟨_,rfl⟩
        have HY8:Hid (w8.heap[D9]? = some (.cells #[.slice sa sn sc,.int .i64 (left:Nat),.int .i64 (eu:Nat),.int .i64 (ev:Nat),.int .i64 (em:Nat),.int .i64 er] 37 (0,0))):=by show _=_; rw[← hw8,← hD9];exact jD w7 _
        have HB8:Hid (Below W.heap.size W w8):=Below.trans' HB7.out (by rw[← hw8];exact (jV w7 _).out)
        have d0:w8.cell? ⟨D9,0,none⟩=some (.slice sa sn sc):=by rw[jB HY8.out];rfl
        have d1:w8.cell? ⟨D9,1,none⟩=some (.int .i64 (left:Nat)):=by rw[jB HY8.out];rfl
        have d2:w8.cell? ⟨D9,2,none⟩=some (.int .i64 (eu:Nat)):=by rw[jB HY8.out];rfl
        have d3:w8.cell? ⟨D9,3,none⟩=some (.int .i64 (ev:Nat)):=by rw[jB HY8.out];rfl
        have d4:w8.cell? ⟨D9,4,none⟩=some (.int .i64 (em:Nat)):=by rw[jB HY8.out];rfl
        have d5:w8.cell? ⟨D9,5,none⟩=some (.int .i64 er):=by rw[jB HY8.out];rfl
        have HE1:Hid (b1=tB R∧e1=tE R):=by
         refine⟨?_,?_⟩
         ·rw[H1.out,HRR.out,HOl.out];unfold smB; rw[Hwu.out,Hwv.out];rfl
         ·rw[H2.out,HRR.out,HOl.out];unfold smE; rw[Hwu.out,Hwv.out];rfl
        have Hr7:=jH hr7.out.wv
        clear hR hf7 hr7
        have her:er=tE R:=by
         rcases ho7.out with ⟨h1,h2,-⟩ | ⟨st,o,G,h1,h2,-⟩
         ·rw[h1,h2];rfl
         ·rw[h1,h2];rfl
        obtain rfl:e1=er:=HE1.out.2.trans her.symm
        by_cases h0:e1=0
        ·have k1:decide (e1=0)=true:=by simpa using h0
         have k2:(e1==0)=true:=by simpa using h0
         have k3:(e1 != 0)=false:=by simpa using h0
         have hI:=risUnit_calls (W:=w8) (sa:=sa) (sn:=sn) (sc:=sc) (left:=left) (eu:=eu) (ev:=ev) (em:=em) (er:=e1)
         have hub:(decide (left=0)&&(decide (eu=0)&&decide (ev=0)&&decide (em=0)))=b1:=by
          rcases ho7.out with ⟨h1,h2,-⟩ | ⟨st,o,G,h1,h2,h3,-,hat,-⟩
          ·rw[h2] at h0; exact absurd h0 (by decide)
          ·rw[unit_left Hr7.out hat ⟨st,o,G,h1,h3,rfl⟩,← HE1.out.1]
         rw[hub] at hI
         have H0:=jH h0
         clear her hub ho7 h0
         go_wp2_with fail
         refine hI.mono ?_
         rintro e w9 ⟨rfl,hb9⟩
         have HB9:=jH (Below.trans' HB8.out hb9.out)
         clear hI hb9
         by_cases h2:e2=0
         ·have HSy:Hid (b2=b1):=by show _=_; rw[H3.out,H1.out];exact (sm_sym (H2.out.symm.trans H0.out) (H4.out.symm.trans h2)).symm
          subst h2
          have hsy:=HSy.out
          subst hsy
          have hC:=HC.out w9
          go_wp2_with fail
          refine hC.mono ?_
          rintro e wk ⟨rfl,hbk⟩
          have hS:=jx wk
          have HBk:=jH (Below.trans' HB9.out hbk.out)
          clear hC hbk
          by_cases h3:e3=0
          ·subst h3
           obtain rfl:b3=true:=by rw[H5.out];exact sm_self H6.out.symm Hwu.out
           go_wp2_with fail
           refine hS.mono ?_
           rintro e wd ⟨rfl,hbd⟩
           go_wp2_with fail
           go_ret
           exact⟨by first | rfl | simp,Below.trans' HBk.out hbd.out⟩
          ·have h31:decide (e3=0)=false:=by simpa using h3
           have h32:(e3==0)=false:=by simpa using h3
           have h33:(e3 != 0)=true:=by simpa using h3
           go_wp2_with fail
           refine hS.mono ?_
           rintro e wd ⟨rfl,hbd⟩
           go_wp2_with fail
           go_ret
           exact⟨by first | rfl | simp,Below.trans' HBk.out hbd.out⟩
         ·have h21:decide (e2=0)=false:=by simpa using h2
          have h22:(e2==0)=false:=by simpa using h2
          have h23:(e2 != 0)=true:=by simpa using h2
          have hC:=HC.out w9
          go_wp2_with fail
          refine hC.mono ?_
          rintro e wk ⟨rfl,hbk⟩
          have hS:=jx wk
          have HBk:=jH (Below.trans' HB9.out hbk.out)
          clear hC hbk
          by_cases h3:e3=0
          ·subst h3
           obtain rfl:b3=true:=by rw[H5.out];exact sm_self H6.out.symm Hwu.out
           go_wp2_with fail
           refine hS.mono ?_
           rintro e wd ⟨rfl,hbd⟩
           go_wp2_with fail
           go_ret
           exact⟨by first | rfl | simp,Below.trans' HBk.out hbd.out⟩
          ·have h31:decide (e3=0)=false:=by simpa using h3
           have h32:(e3==0)=false:=by simpa using h3
           have h33:(e3 != 0)=true:=by simpa using h3
           go_wp2_with fail
           refine hS.mono ?_
           rintro e wd ⟨rfl,hbd⟩
           go_wp2_with fail
           go_ret
           exact⟨by first | rfl | simp,Below.trans' HBk.out hbd.out⟩
        ·have k1:decide (e1=0)=false:=by simpa using h0
         have k2:(e1==0)=false:=by simpa using h0
         have k3:(e1 != 0)=true:=by simpa using h0
         obtain rfl:b1=false:=by
          rcases ho7.out with ⟨h1,-⟩ | ⟨st,o,G,h1,h2,-⟩
          ·rw[HE1.out.1,h1];rfl
          ·exact absurd h2 h0
         clear her ho7 h0
         have hC:=HC.out w8
         go_wp2_with fail
         refine hC.mono ?_
         rintro e wk ⟨rfl,hbk⟩
         have hS:=jx wk
         have HBk:=jH (Below.trans' HB8.out hbk.out)
         clear hC hbk
         by_cases h3:e3=0
         ·subst h3
          obtain rfl:b3=true:=by rw[H5.out];exact sm_self H6.out.symm Hwu.out
          go_wp2_with fail
          refine hS.mono ?_
          rintro e wd ⟨rfl,hbd⟩
          go_wp2_with fail
          go_ret
          exact⟨by first | rfl | simp,Below.trans' HBk.out hbd.out⟩
         ·have h31:decide (e3=0)=false:=by simpa using h3
          have h32:(e3==0)=false:=by simpa using h3
          have h33:(e3 != 0)=true:=by simpa using h3
          go_wp2_with fail
          refine hS.mono ?_
          rintro e wd ⟨rfl,hbd⟩
          go_wp2_with fail
          go_ret
          exact⟨by first | rfl | simp,Below.trans' HBk.out hbd.out⟩
end Sr
