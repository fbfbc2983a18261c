/- Texts of this claim, joined: SortF. -/
import Derived.Test.YtabafgphmbdpgaaGreatDoorTe1
import Derived.Test.YtabafgphmbdpgaaGreatDoorTe5
set_option maxHeartbeats 8000000
set_option maxRecDepth 100000
namespace Sr
open Go Go.Proofs Go.RowKit Go.Sort
section
variable {g:FuncId} {fst cb:Array Value} {cf:Nat→Nat→Int} {blk off n:Nat} {Γ:Type} {K:Γ→Array Nat→World→Prop} {Out:Γ→Nat→Prop}
section
variable {lt:Nat→Nat→Bool} {d:Array Nat} {a b i j s:Nat}
theorem ssort_go (h:i<b)(hp:lt d[i]! d[i - 1]! = false): scanSorted lt d b i=scanSorted lt d b (i+1):=by
 conv=>lhs; rw[scanSorted]
 simp[h,hp]
theorem ssort_stop (h:i<b→lt d[i]! d[i - 1]! = true): scanSorted lt d b i=i:=by
 rw[scanSorted]
 by_cases hi:i<b
 ·simp[hi,h hi]
 ·simp[hi]
theorem shd_go (h:lt d[j+1]! d[j]! = true): shiftDown lt (j+1) d=shiftDown lt j (swp d (j+1) j):=by rw[shiftDown];simp[h]
theorem shd_stop (h:lt d[j+1]! d[j]! = false): shiftDown lt (j+1) d=d:=by rw[shiftDown];simp[h]
theorem shu_go (hj:j<b)(h:lt d[j]! d[j - 1]! = true): shiftUp lt b j d=shiftUp lt b (j+1) (swp d j (j - 1)):=by
 conv=>lhs; rw[shiftUp]
 simp[h,hj]
theorem shu_stop (h:j<b→lt d[j]! d[j - 1]! = false): shiftUp lt b j d=d:=by
 rw[shiftUp]
 by_cases hj:j<b
 ·simp[hj,h hj]
 ·simp[hj]
end
theorem pins_step (lt:Nat→Nat→Bool)(a b s i:Nat)(d:Array Nat)(i2:Nat)(h:scanSorted lt d b i=i2): partialIns lt a b (s+1) i d =
 if i2=b then (d,true) else if b - a<50 then (d,false) else
  partialIns lt a b s i2 (if b - i2≥2 then shiftUp lt b (i2+1) (if i2 - a≥2 then shiftDown lt (i2 - 1) (swp d i2 (i2 - 1)) else swp d i2 (i2 - 1)) else (if i2 - a≥2 then shiftDown lt (i2 - 1) (swp d i2 (i2 - 1)) else swp d i2 (i2 - 1))):=by
 rw[partialIns];simp only[h]
theorem yL (S:SRow Tryz.prog g fst cb cf blk off n Γ K Out)(eg:∀ args w,(callFunc g args).run Tryz.prog w=.ok (.enter g args) w) 
 (w:World) (cap a b:Nat) (hab:a<b) (hb:b≤n) (hn:n≤1000000000) (γ:Γ) (d:Array Nat) (hK:K γ d w) :
 Calls Tryz.prog 151 #[.slice (some ⟨blk,off,none⟩) n cap,.int .i64 a,.int .i64 b,.func (.func g) fst cb] w fun e w' =>
  e=.returned (.bool (partialInsertionSort (ltf cf) d a b).2)∧Hid (SPost K Out γ w (partialInsertionSort (ltf cf) d a b).1 w'):=by
 have H0:Hid (SPost K Out γ w d w):=SPost.refl hK
 clear hK
 go_enter Tryz.func151,Tryz.ntmps151
 go_wp2_with fail
 go_loopg [9,10] 5 (fun g1 vi vj wr=>∃ (i s:Nat) (x:Int) (dk:Array Nat),vi=.int .i64 i∧vj=.int .i64 x∧x+s≤5∧5≤x+s∧a+1≤i∧i≤b∧s≤g1∧s≤5∧Hid (SPost K Out γ w dk wr)∧Hid (partialIns (ltf cf) a b 5 (a+1) d=partialIns (ltf cf) a b s i dk))
 case atStart=>exact⟨a+1,5,0,d,by go_num,by rfl,by omega,by omega,by omega,by omega,by omega,by omega,H0,rfl⟩
 case round =>
  clear H0
  obtain⟨i,s,x,dk,rfl,rfl,hx1,hx2,hai,hib,hg1,hs5,H1,EL⟩:=hrel
  by_cases hs:0<s
  ·obtain⟨s,rfl⟩:∃ z,s=z+1:=⟨s - 1,by omega⟩
   have hsz:x<5:=by omega
   go_upto_block 2 with fail
   go_cut [9] from 15 to 38 (fun vi wq=>∃ (i2:Nat),vi=.int .i64 i2∧i≤i2∧i2≤b∧Hid (SPost K Out γ w dk wq)∧Hid (scanSorted (ltf cf) dk b i=i2))
   case first =>
    go_wp2_with fail
    go_loopg [9] (b - i) (fun g2 vi wr2=>∃ (q:Nat),vi=.int .i64 q∧i≤q∧q≤b∧b - q≤g2∧Hid (SPost K Out γ w dk wr2)∧Hid (scanSorted (ltf cf) dk b i=scanSorted (ltf cf) dk b q))
    case atStart=>exact⟨i,rfl,by omega,by omega,by omega,H1,rfl⟩
    case round =>
     clear H1
     obtain⟨q,rfl,hq1,hq2,hq3,H2,E2⟩:=hrel
     by_cases hqj:q<b
     ·obtain⟨q,rfl⟩:∃ z,q=z+1:=⟨q - 1,by omega⟩
      have hg:decide ((q:Int)+1<(b:Int))=true:=by simp; omega
      have e1:((q:Int)+1:Int).toNat=q+1:=by omega
      have p1:(0:Int)≤(q:Int)+1:=by omega
      have b1:((q:Int)+1:Int)<(n:Int):=by omega
      have w1:IntKind.i64.wrap ((q:Int)+1:Int)=(q:Int)+1:=by rw[IntKind.wrap_i64];omega
      have e2:((q:Int):Int).toNat=q:=by omega
      have p2:(0:Int)≤(q:Int):=by omega
      have b2:((q:Int):Int)<(n:Int):=by omega
      have w2:IntKind.i64.wrap ((q:Int):Int)=(q:Int):=by rw[IntKind.wrap_i64];omega
      have c1:=S.pcell H2.out (q+1) (by omega)
      have c2:=S.pcell H2.out q (by omega)
      have HC:=S.pcmp H2.out (q+1) q (by omega) (by omega)
      clear H2
      by_cases hc:cf dk[q+1]! dk[q]!<0
      ·have hdc:decide (cf dk[q+1]! dk[q]!<0)=true:=decide_eq_true hc
       have E3:Hid (scanSorted (ltf cf) dk b i=q+1):=by show _=_; rw[E2.out,ssort_stop (fun _=>?_)];exact decide_eq_true hc
       clear E2
       go_wp2_with fail
       go_still_tail 14,(by kernel_rfl)
       change wpList _ _ _ _ _ (World.drew _)
       go_wp2_with ((with_reducible refine HC.mono ?_);rintro e w' ⟨rfl,H3⟩)
       clear HC c1 c2 hdc
       go_meet
       case rel=>exact⟨q+1,by go_num,hq1,hq2,H3,E3⟩
      ·have hdc:decide (cf dk[q+1]! dk[q]!<0)=false:=decide_eq_false hc
       have E3:Hid (scanSorted (ltf cf) dk b i=scanSorted (ltf cf) dk b (q+1+1)):=by show _=_; rw[E2.out,ssort_go hqj];exact decide_eq_false hc
       clear E2
       go_wp2_with fail
       go_still_tail 14,(by kernel_rfl)
       change wpList _ _ _ _ _ (World.drew _)
       go_wp2_with ((with_reducible refine HC.mono ?_);rintro e w' ⟨rfl,H3⟩)
       clear HC c1 c2 hdc
       go_roundg (b - (q+1+1))
       case measure=>omega
       case rel=>exact⟨q+1+1,by go_num,by omega,by omega,by omega,H3,E3⟩
     ·have hg:decide ((q:Int)<(b:Int))=false:=by simp; omega
      have E3:Hid (scanSorted (ltf cf) dk b i=q):=by show _=_; rw[E2.out,ssort_stop (fun h=>absurd h hqj)]
      have H3:Hid _:=S.pdrew H2.out
      clear E2 H2
      go_wp2_with fail
      go_region
      go_wp2_with fail
      go_meet
      case rel=>exact⟨q,rfl,hq1,hq2,H3,E3⟩
   case rest =>
    clear H1
    obtain⟨i2,rfl,hi1,hi2,H1,EU⟩:=hcut
    have EP:=pins_step (ltf cf) a b s i dk i2 EU.out
    have ES:Hid (partialIns (ltf cf) a b 5 (a+1) d=_):=EL.out.trans EP
    clear EP EL EU
    by_cases hend:i2=b
    ·have hez:((i2:Int)==(b:Int))=true:=by simp; omega
     have E4:Hid (partialInsertionSort (ltf cf) d a b=(dk,true)):=by show _=_; unfold partialInsertionSort; rw[ES.out,if_pos hend]
     have hend':Hid (i2=b):=hend
     clear ES hend
     go_wp2_with fail
     go_ret
     rw[E4.out]
     exact⟨rfl,H1⟩
    ·have hez:((i2:Int)==(b:Int))=false:=by simp; omega
     by_cases h50:b - a<50
     ·have h50z:(b:Int) - (a:Int)<50:=by omega
      have E4:Hid (partialInsertionSort (ltf cf) d a b=(dk,false)):=by show _=_; unfold partialInsertionSort; rw[ES.out,if_neg hend,if_pos h50]
      clear ES
      go_wp2_with fail
      go_ret
      rw[E4.out]
      exact⟨rfl,H1⟩
     ·have h50z:50≤(b:Int) - (a:Int):=by omega
      replace ES:=ES.out
      rw[if_neg hend,if_neg h50] at ES
      have E4:Hid _:=ES
      clear ES
      obtain⟨t,ht1,ht2⟩:∃ t,i2≤t+1∧t+1≤i2:=⟨i2 - 1,by omega,by omega⟩
      have HT:Hid (i2 - 1=t):=show i2 - 1=t by omega
      rw[HT.out] at E4
      have ez:(i2:Int) - 1=(t:Int):=by omega
      have e1:((i2:Int):Int).toNat=i2:=by omega
      have p1:(0:Int)≤(i2:Int):=by omega
      have b1:((i2:Int):Int)<(n:Int):=by omega
      have w1:IntKind.i64.wrap ((i2:Int):Int)=(i2:Int):=by rw[IntKind.wrap_i64];omega
      have e2:((t:Int):Int).toNat=t:=by omega
      have p2:(0:Int)≤(t:Int):=by omega
      have b2:((t:Int):Int)<(n:Int):=by omega
      have w2:IntKind.i64.wrap ((t:Int):Int)=(t:Int):=by rw[IntKind.wrap_i64];omega
      go_upto_region 11 with fail
      have c1:=S.pcell H1.out (i2) (by omega)
      have c2:=S.pcell H1.out (t) (by omega)
      have f1:=S.pfree H1.out (i2) (by omega)
      have f2:=S.pfree H1.out (t) (by omega)
      obtain⟨u,c3⟩:=S.pcell2 H1.out (i2) (t) (by omega) (by omega) (.int .i64 (dk[t]!:Nat))
      have H2:Hid _:=S.pswap H1.out (i2) (t) (by omega) (by omega)
      clear H1
      go_wp2_with fail
      go_region
      clear c1 c2 f1 f2 c3
      clear e1 p1 b1 w1 e2 p2 b2 w2 ez
      obtain⟨dk,hdk⟩:∃ z,z=swp dk i2 t:=⟨_,rfl⟩
      rw[← hdk] at E4 H2
      rw[← HT.out] at E4
      clear hdk HT
      generalize World.drew _=wz at H2 ⊢
      have H1:=H2
      clear H2
      go_upto_if 65 with fail
      go_cut [] from 15 to 140 (fun wq=>∃ (d2:Array Nat),Hid (SPost K Out γ w d2 wq)∧Hid ((if i2 - a≥2 then shiftDown (ltf cf) (i2 - 1) dk else dk)=d2))
      case first =>
       by_cases h2:2≤i2 - a
       ·have h2z:2≤(i2:Int) - (a:Int):=by omega
        simp only[show decide (2≤(i2:Int) - (a:Int))=true from decide_eq_true h2z]
        obtain⟨t,ht⟩:∃ t,i2=t+1:=⟨i2 - 1,by omega⟩
        have ez:(i2:Int) - 1=(t:Int):=by omega
        have htb:t<n:=by omega
        have HE:Hid ((if i2 - a≥2 then shiftDown (ltf cf) (i2 - 1) dk else dk)=shiftDown (ltf cf) t dk):=by show _=_; rw[if_pos h2,ht];rfl
        clear ht
        go_wp2_with fail
        go_loopg [11] (t+1) (fun g2 vj wr2=>∃ (q:Nat) (dj:Array Nat),vj=.int .i64 q∧q≤t∧q+1≤g2∧Hid (SPost K Out γ w dj wr2)∧Hid ((if i2 - a≥2 then shiftDown (ltf cf) (i2 - 1) dk else dk)=shiftDown (ltf cf) q dj))
        case atStart=>exact⟨t,dk,by first | rfl | (congr 1; omega),jR _,jR _,H1,HE⟩
        case round =>
         clear H1 HE ez
         obtain⟨q,dj,rfl,hq1,hq2,H2,E2⟩:=hrel
         by_cases hq0:1≤q
         ·obtain⟨q,rfl⟩:∃ z,q=z+1:=⟨q - 1,by omega⟩
          have e1:((q:Int)+1:Int).toNat=q+1:=by omega
          have p1:(0:Int)≤(q:Int)+1:=by omega
          have b1:((q:Int)+1:Int)<(n:Int):=by omega
          have w1:IntKind.i64.wrap ((q:Int)+1:Int)=(q:Int)+1:=by rw[IntKind.wrap_i64];omega
          have e2:((q:Int):Int).toNat=q:=by omega
          have p2:(0:Int)≤(q:Int):=by omega
          have b2:((q:Int):Int)<(n:Int):=by omega
          have w2:IntKind.i64.wrap ((q:Int):Int)=(q:Int):=by rw[IntKind.wrap_i64];omega
          have c1:=S.pcell H2.out (q+1) (by omega)
          have c2:=S.pcell H2.out q (by omega)
          have HC:=S.pcmp H2.out (q+1) q (by omega) (by omega)
          clear H2
          by_cases hc:cf dj[q+1]! dj[q]!<0
          ·have hdc:decide (cf dj[q+1]! dj[q]!<0)=true:=decide_eq_true hc
           have E3:Hid ((if i2 - a≥2 then shiftDown (ltf cf) (i2 - 1) dk else dk)=shiftDown (ltf cf) q (swp dj (q+1) q)):=by show _=_; rw[E2.out,shd_go];exact decide_eq_true hc
           clear E2
           go_wp2_with fail
           go_still_tail 10,(by kernel_rfl)
           change wpList _ _ _ _ _ (World.drew _)
           go_wp2_with ((with_reducible refine HC.mono ?_);rintro e w' ⟨rfl,H1⟩)
           clear HC c1 c2 hdc
           have c1:=S.pcell H1.out (q+1) (by omega)
           have c2:=S.pcell H1.out (q) (by omega)
           have f1:=S.pfree H1.out (q+1) (by omega)
           have f2:=S.pfree H1.out (q) (by omega)
           obtain⟨u,c3⟩:=S.pcell2 H1.out (q+1) (q) (by omega) (by omega) (.int .i64 (dj[q]!:Nat))
           have H2:Hid _:=S.pswap H1.out (q+1) (q) (by omega) (by omega)
           clear H1
           go_wp2_with fail
           go_region
           clear c1 c2 f1 f2 c3
           go_wp2_with fail
           go_roundg (q+1)
           case measure=>omega
           case rel=>exact⟨q,swp dj (q+1) q,by go_num,by omega,by omega,H2,E3⟩
          ·have hdc:decide (cf dj[q+1]! dj[q]!<0)=false:=decide_eq_false hc
           have E3:Hid ((if i2 - a≥2 then shiftDown (ltf cf) (i2 - 1) dk else dk)=dj):=by show _=_; rw[E2.out,shd_stop];exact decide_eq_false hc
           clear E2
           go_wp2_with fail
           go_still_tail 10,(by kernel_rfl)
           change wpList _ _ _ _ _ (World.drew _)
           go_wp2_with ((with_reducible refine HC.mono ?_);rintro e w' ⟨rfl,H1⟩)
           clear HC c1 c2 hdc
           go_meet
           case rel=>exact⟨dj,H1,E3⟩
         ·obtain rfl:q=0:=by omega
          have E3:Hid ((if i2 - a≥2 then shiftDown (ltf cf) (i2 - 1) dk else dk)=dj):=by show _=_; rw[E2.out];rfl
          clear E2
          go_wp2_with fail
          go_meet
          case rel=>exact⟨dj,H2,E3⟩
       ·have h2z:(i2:Int) - (a:Int)<2:=by omega
        have HE:Hid ((if i2 - a≥2 then shiftDown (ltf cf) (i2 - 1) dk else dk)=dk):=by show _=_; rw[if_neg h2]
        go_wp2_with fail
        go_meet
        case rel=>exact⟨dk,H1,HE⟩
      case rest =>
       clear H1
       obtain⟨d2,H1,EA⟩:=hcut
       rw[EA.out] at E4
       clear EA
       go_upto_if 104 with fail
       ·skip
        by_cases h2:2≤b - i2
        ·have h2z:2≤(b:Int) - (i2:Int):=by omega
         simp only[show decide (2≤(b:Int) - (i2:Int))=true from decide_eq_true h2z]
         have HE:Hid ((if b - i2≥2 then shiftUp (ltf cf) b (i2+1) d2 else d2)=shiftUp (ltf cf) b (i2+1) d2):=by show _=_; rw[if_pos h2]
         go_wp2_with fail
         go_loopg [12] (b - (i2+1)) (fun g2 vj wr2=>∃ (q:Nat) (dj:Array Nat),vj=.int .i64 q∧1≤q∧q≤b∧b - q≤g2∧Hid (SPost K Out γ w dj wr2)∧Hid ((if b - i2≥2 then shiftUp (ltf cf) b (i2+1) d2 else d2)=shiftUp (ltf cf) b q dj))
         case atStart=>exact⟨i2+1,d2,by go_num,by omega,by omega,by omega,H1,HE⟩
         case round =>
          clear H1 HE
          obtain⟨q,dj,rfl,hq0,hq1,hq2,H2,E2⟩:=hrel
          obtain⟨q,rfl⟩:∃ z,q=z+1:=⟨q - 1,by omega⟩
          by_cases hqb:q+1<b
          ·have hqz:(q:Int)+1<(b:Int):=by omega
           have e1:((q:Int)+1:Int).toNat=q+1:=by omega
           have p1:(0:Int)≤(q:Int)+1:=by omega
           have b1:((q:Int)+1:Int)<(n:Int):=by omega
           have w1:IntKind.i64.wrap ((q:Int)+1:Int)=(q:Int)+1:=by rw[IntKind.wrap_i64];omega
           have e2:((q:Int):Int).toNat=q:=by omega
           have p2:(0:Int)≤(q:Int):=by omega
           have b2:((q:Int):Int)<(n:Int):=by omega
           have w2:IntKind.i64.wrap ((q:Int):Int)=(q:Int):=by rw[IntKind.wrap_i64];omega
           have c1:=S.pcell H2.out (q+1) (by omega)
           have c2:=S.pcell H2.out q (by omega)
           have HC:=S.pcmp H2.out (q+1) q (by omega) (by omega)
           clear H2
           by_cases hc:cf dj[q+1]! dj[q]!<0
           ·have hdc:decide (cf dj[q+1]! dj[q]!<0)=true:=decide_eq_true hc
            have E3:Hid ((if b - i2≥2 then shiftUp (ltf cf) b (i2+1) d2 else d2)=shiftUp (ltf cf) b (q+1+1) (swp dj (q+1) q)):=E2.out.trans (shu_go hqb (decide_eq_true hc))
            clear E2
            go_wp2_with fail
            go_still_tail 10,(by kernel_rfl)
            change wpList _ _ _ _ _ (World.drew _)
            go_wp2_with ((with_reducible refine HC.mono ?_);rintro e w' ⟨rfl,H1⟩)
            clear HC c1 c2 hdc
            have c1:=S.pcell H1.out (q+1) (by omega)
            have c2:=S.pcell H1.out (q) (by omega)
            have f1:=S.pfree H1.out (q+1) (by omega)
            have f2:=S.pfree H1.out (q) (by omega)
            obtain⟨u,c3⟩:=S.pcell2 H1.out (q+1) (q) (by omega) (by omega) (.int .i64 (dj[q]!:Nat))
            have H2:Hid _:=S.pswap H1.out (q+1) (q) (by omega) (by omega)
            clear H1
            go_wp2_with fail
            go_region
            clear c1 c2 f1 f2 c3
            go_wp2_with fail
            go_roundg (b - (q+1+1))
            case measure=>omega
            case rel=>exact⟨q+1+1,swp dj (q+1) q,by go_num,by omega,by omega,by omega,H2,E3⟩
           ·have hdc:decide (cf dj[q+1]! dj[q]!<0)=false:=decide_eq_false hc
            have E3:Hid ((if b - i2≥2 then shiftUp (ltf cf) b (i2+1) d2 else d2)=dj):=by show _=_; rw[E2.out,shu_stop (fun _=>?_)];exact decide_eq_false hc
            clear E2
            go_wp2_with fail
            go_still_tail 10,(by kernel_rfl)
            change wpList _ _ _ _ _ (World.drew _)
            go_wp2_with ((with_reducible refine HC.mono ?_);rintro e w' ⟨rfl,H1⟩)
            clear HC c1 c2 hdc
            have E5:Hid (partialIns (ltf cf) a b 5 (a+1) d=partialIns (ltf cf) a b s i2 dj):=by show _=_; rw[E4.out,E3.out]
            go_roundg s
            case measure=>omega
            case rel=>exact⟨i2,s,x+1,dj,rfl,rfl,by omega,by omega,by omega,by omega,jR _,by omega,H1,E5⟩
          ·have hqz:(b:Int)≤(q:Int)+1:=by omega
           have E3:Hid ((if b - i2≥2 then shiftUp (ltf cf) b (i2+1) d2 else d2)=dj):=by show _=_; rw[E2.out,shu_stop (fun h=>absurd h hqb)]
           clear E2
           go_wp2_with fail
           have E5:Hid (partialIns (ltf cf) a b 5 (a+1) d=partialIns (ltf cf) a b s i2 dj):=by show _=_; rw[E4.out,E3.out]
           go_roundg s
           case measure=>omega
           case rel=>exact⟨i2,s,x+1,dj,rfl,rfl,by omega,by omega,by omega,by omega,jR _,by omega,H2,E5⟩
        ·have h2z:(b:Int) - (i2:Int)<2:=by omega
         have HE:Hid ((if b - i2≥2 then shiftUp (ltf cf) b (i2+1) d2 else d2)=d2):=by show _=_; rw[if_neg h2]
         go_wp2_with fail
         have E5:Hid (partialIns (ltf cf) a b 5 (a+1) d=partialIns (ltf cf) a b s i2 d2):=by show _=_; rw[E4.out,HE.out]
         go_roundg s
         case measure=>omega
         case rel=>exact⟨i2,s,x+1,d2,rfl,rfl,by omega,by omega,by omega,by omega,jR _,by omega,H1,E5⟩
  ·obtain rfl:s=0:=by omega
   have hsz:¬ x<5:=by omega
   have E4:Hid (partialInsertionSort (ltf cf) d a b=(dk,false)):=by show _=_; unfold partialInsertionSort; rw[EL.out];rfl
   clear EL
   go_wp2_with fail
   go_ret
   rw[E4.out]
   exact⟨rfl,H1⟩
end
end Sr
