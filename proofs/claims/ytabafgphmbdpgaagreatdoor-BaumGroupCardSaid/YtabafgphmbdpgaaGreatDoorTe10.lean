/- Texts of this claim, joined: SortH. -/
import Derived.Test.YtabafgphmbdpgaaGreatDoorTe1
import Derived.Test.YtabafgphmbdpgaaGreatDoorTe4
import Derived.Test.YtabafgphmbdpgaaGreatDoorTe6
import Derived.Test.YtabafgphmbdpgaaGreatDoorTe7
import Derived.Test.YtabafgphmbdpgaaGreatDoorTe9
set_option maxHeartbeats 8000000
set_option maxRecDepth 100000
namespace Sr
open Go Go.Proofs Go.RowKit Go.Sort
section
variable {g:FuncId} {fst cb:Array Value} {cf:Nat→Nat→Int} {blk off n:Nat} {Γ:Type} {K:Γ→Array Nat→World→Prop} {Out:Γ→Nat→Prop}
def Owed (lt:Nat→Nat→Bool)(a b:Nat)(d:Array Nat)(a' b':Nat)(dk:Array Nat): Prop :=
 dk.size=d.size∧Sort.Below lt a' b' dk∧∀ d2,PermIn a' b' dk d2→SortedIn lt a' b' d2→PermIn a b d d2∧SortedIn lt a b d2
theorem Owed.perm {lt:Nat→Nat→Bool}{a b a' b':Nat}{d dk d2:Array Nat}(h:Owed lt a b d a' b' dk)(hb:b'≤d.size)(hp:PermIn a' b' dk d2): Owed lt a b d a' b' d2:=by
 obtain⟨h1,h2,h3⟩:=h
 exact⟨hp.1.trans h1,h2.perm (by omega) hp,fun d3 p3 s3=>h3 d3 (permIn_trans _ _ _ _ _ hp p3) s3⟩
def PdqPost {Γ:Type}(K:Γ→Array Nat→World→Prop)(Out:Γ→Nat→Prop)(lt:Nat→Nat→Bool)(a b:Nat)(d:Array Nat)(γ:Γ)(w w':World): Prop :=
 ∃ d',PermIn a b d d'∧SortedIn lt a b d'∧SPost K Out γ w d' w'
def BreakCalls (K:Γ→Array Nat→World→Prop)(Out:Γ→Nat→Prop)(blk off n:Nat): Prop:=∀ (w:World) (cap a b:Nat) (f:Value),a+12<b→b≤n→n≤1000000000→∀ (γ:Γ) (d:Array Nat),K γ d w →
 Calls Tryz.prog 148 #[.slice (some ⟨blk,off,none⟩) n cap,.int .i64 a,.int .i64 b,f] w fun e w'=>e=.returned (.tuple #[])∧∃ d',Hid (PermIn a b d d')∧Hid (SPost K Out γ w d' w')
theorem post_of {f:FuncId}{args:Array Value}{γ:Γ}{d:Array Nat}{w w1:World}{P:Ending→Prop}{Q:Array Nat→Prop}(h:SPost K Out γ w d w1) 
 (hc:∀ γ1,K γ1 d w1→Calls Tryz.prog f args w1 fun e w'=>P e∧∃ d',Hid (Q d')∧Hid (SPost K Out γ1 w1 d' w')) :
 Calls Tryz.prog f args w1 fun e w'=>P e∧∃ d',Hid (Q d')∧Hid (SPost K Out γ w d' w'):=by
 obtain⟨γ1,h1,h2,h3⟩:=h
 exact (hc γ1 h1).mono fun _ _ ⟨he,d',hq,hp⟩=>⟨he,d',hq,SPost.and h2 h3 hp.out⟩
theorem pdq_calls (S:SRow Tryz.prog g fst cb cf blk off n Γ K Out)(eg:∀ args w,(callFunc g args).run Tryz.prog w=.ok (.enter g args) w)(HB:Hid (BreakCalls K Out blk off n))(hO:Hid (SWO (ltf cf)))(hn:n≤1000000000):
 ∀ (N:Nat) (w:World) (cap a b lim:Nat) (γ:Γ) (d:Array Nat),b - a≤N→a≤b→b≤n→lim≤100→Hid (Sort.Below (ltf cf) a b d)→Hid (K γ d w) →
 Calls Tryz.prog 132 #[.slice (some ⟨blk,off,none⟩) n cap,.int .i64 a,.int .i64 b,.int .i64 lim,.func (.func g) fst cb] w fun e w' =>
  e=.returned (.tuple #[])∧Hid (PdqPost K Out (ltf cf) a b d γ w w'):=by
 intro N
 induction N using Nat.strongRecOn with
 | _ N ih =>
 intro w cap a b lim γ d hN hab hb hlim hB hK
 have IH:Hid _:=ih
 clear ih
 have H0:Hid (SPost K Out γ w d w):=SPost.refl hK.out
 have hsz:=S.size hK.out
 have HS:Hid (d.size=n):=hsz
 have O0:Hid (Owed (ltf cf) a b d a b d):=⟨rfl,hB.out,fun d2 p s=>⟨p,s⟩⟩
 clear hK hB hsz
 go_enter Tryz.func132,Tryz.ntmps132
 go_wp2_with fail
 go_loopg [1,2,3,10,11] (b - a) (fun g1 va vb vl vwb vwp wr=>∃ (a' b' lim':Nat) (wb wp:Bool) (dk:Array Nat),va=.int .i64 a'∧vb=.int .i64 b'∧vl=.int .i64 lim'∧vwb=.bool wb∧vwp=.bool wp ∧
  a≤a'∧a'≤b'∧b'≤b∧b' - a'≤g1∧lim'≤100∧Hid (SPost K Out γ w dk wr)∧Hid (Owed (ltf cf) a b d a' b' dk))
 case atStart=>exact⟨a,b,lim,true,true,d,rfl,rfl,rfl,rfl,rfl,by omega,by omega,by omega,by omega,hlim,H0,O0⟩
 case round =>
  clear H0 O0
  obtain⟨a',b',lim',wb,wp,dk,rfl,rfl,rfl,rfl,rfl,haa,hab',hbb,hg1,hl1,H1,O1⟩:=hrel
  by_cases h12:b' - a'≤12
  ·have h12z:(b':Int) - (a':Int)≤12:=by omega
   have HC:Calls Tryz.prog 146 #[.slice (some ⟨blk,off,none⟩) n cap,.int .i64 a',.int .i64 b',.func (.func g) fst cb] wr fun e w'=>e=.returned (.tuple #[])∧Hid (PdqPost K Out (ltf cf) a b d γ w w'):=by
    obtain⟨γ1,k1,k2,k3⟩:=H1.out
    refine (insertionSort_calls S eg wr cap a' b' hab' (by omega) hn γ1 dk k1).mono fun e w' ⟨he,hp⟩=>⟨he,?_⟩
    have hsz:=S.size k1
    obtain⟨p1,p2⟩:=insertionSort_holds (lt:=ltf cf) hO.out dk a' b' hab' (by omega)
    obtain⟨q1,q2⟩:=O1.out.2.2 _ p1 p2
    exact⟨_,q1,q2,SPost.and k2 k3 hp.out⟩
   clear H1 O1
   go_wp2_with fail
   refine HC.mono ?_
   rintro e w' ⟨rfl,H3⟩
   clear HC
   go_wp2_with fail
   refine bodyPost_ret (results_none rfl _ _ _) rfl ?_
   exact⟨rfl,H3⟩
  ·have h12z:12<(b':Int) - (a':Int):=by omega
   by_cases hl0:lim'=0
   ·subst hl0
    have hl0z:(((0:Nat):Int)==0)=true:=by simp
    have HC:Calls Tryz.prog 147 #[.slice (some ⟨blk,off,none⟩) n cap,.int .i64 a',.int .i64 b',.func (.func g) fst cb] wr fun e w'=>e=.returned (.tuple #[])∧Hid (PdqPost K Out (ltf cf) a b d γ w w'):=by
     obtain⟨γ1,k1,k2,k3⟩:=H1.out
     refine (heapSort_calls S eg wr cap a' b' hab' (by omega) hn γ1 dk k1).mono fun e w' ⟨he,hp⟩=>⟨he,?_⟩
     have hsz:=S.size k1
     obtain⟨p1,p2⟩:=heapSort_holds (lt:=ltf cf) hO.out dk a' b' hab' (by omega)
     obtain⟨q1,q2⟩:=O1.out.2.2 _ p1 p2
     exact⟨_,q1,q2,SPost.and k2 k3 hp.out⟩
    clear H1 O1
    go_wp2_with fail
    refine HC.mono ?_
    rintro e w' ⟨rfl,H3⟩
    clear HC
    go_wp2_with fail
    refine bodyPost_ret (results_none rfl _ _ _) rfl ?_
    exact⟨rfl,H3⟩
   ·have hl0z:((lim':Int)==0)=false:=by simp; omega
    have hbn:b'≤d.size:=by have:=HS.out; omega
    go_upto_if 39 with fail
    go_cut [3] from 21 to 147 (fun vl wq=>∃ (lim2:Nat) (d1:Array Nat),vl=.int .i64 lim2∧lim2≤100∧Hid (SPost K Out γ w d1 wq)∧Hid (Owed (ltf cf) a b d a' b' d1))
    case first =>
     cases wb with
     | true =>
       go_wp2_with fail
       go_meet
       case rel=>exact⟨lim',dk,rfl,hl1,H1,O1⟩
     | false =>
       have HC:=post_of (P:=fun e=>e=.returned (.tuple #[])) H1.out (fun γ1 k1=>HB.out wr cap a' b' (.func (.func g) fst cb) (by omega) (by omega) hn γ1 dk k1)
       clear H1
       go_wp2_with fail
       refine HC.mono ?_
       rintro e w' ⟨rfl,d1,Q1,H1⟩
       clear HC
       have O2:Hid (Owed (ltf cf) a b d a' b' d1):=O1.out.perm hbn Q1.out
       clear O1 Q1
       go_wp2_with fail
       go_meet
       case rel=>exact⟨lim' - 1,d1,by congr 1; omega,by omega,H1,O2⟩
    case rest =>
     clear H1 O1 hl0z
     obtain⟨lim2,d1,rfl,hl2,H1,O1⟩:=hcut
     have HC:Calls Tryz.prog 149 #[.slice (some ⟨blk,off,none⟩) n cap,.int .i64 a',.int .i64 b',.func (.func g) fst cb] wc fun e w'=>∃ (x:Nat) (h:Int),a'≤x∧x<b'∧0≤h∧h≤2∧e=.returned (.tuple #[.int .i64 x,.int .i64 h])∧Hid (SPost K Out γ w d1 w'):=by
      obtain⟨γ1,k1,k2,k3⟩:=H1.out
      refine (choosePivot_calls S eg wc cap a' b' (by omega) (by omega) hn γ1 d1 k1).mono ?_
      rintro e w' ⟨x,h,h1,h2,h3,h4,h5,hp⟩
      exact⟨x,h,h1,h2,h3,h4,h5,SPost.and k2 k3 hp.out⟩
     clear H1
     go_wp2_with fail
     refine HC.mono ?_
     rintro e w' ⟨x,h,hx1,hx2,hh1,hh2,rfl,H1⟩
     clear HC
     go_upto_if 56 with fail
     go_cut [13,14] from 21 to 147 (fun vp vh wq=>∃ (x2:Nat) (h2:Int) (d2:Array Nat),vp=.int .i64 x2∧vh=.int .i64 h2∧a'≤x2∧x2<b'∧Hid (SPost K Out γ w d2 wq)∧Hid (Owed (ltf cf) a b d a' b' d2))
     case first =>
      by_cases hh:h=2
      ·subst hh
       have HC:Calls Tryz.prog 150 #[.slice (some ⟨blk,off,none⟩) n cap,.int .i64 a',.int .i64 b',.func (.func g) fst cb] w' fun e w2=>e=.returned (.tuple #[])∧Hid (SPost K Out γ w (reverseRange d1 a' b') w2):=by
        obtain⟨γ1,k1,k2,k3⟩:=H1.out
        exact (reverseRange_calls S w' cap a' b' (by omega) (by omega) hn γ1 d1 k1 _).mono fun _ _ ⟨he,hp⟩=>⟨he,SPost.and k2 k3 hp.out⟩
       have O2:Hid (Owed (ltf cf) a b d a' b' (reverseRange d1 a' b')):=O1.out.perm hbn (reverseRange_holds d1 a' b' hab' (by have:=O1.out.1; omega))
       clear H1 O1
       go_wp2_with fail
       refine HC.mono ?_
       rintro e w2 ⟨rfl,H1⟩
       clear HC
       go_wp2_with fail
       go_meet
       case rel=>exact⟨b' - 1 - (x - a'),1,_,by congr 1; omega,rfl,by omega,by omega,H1,O2⟩
      ·have hhz:(h==2)=false:=by simp; omega
       go_wp2_with fail
       go_meet
       case rel=>exact⟨x,h,d1,rfl,rfl,hx1,hx2,H1,O1⟩
     case rest =>
      clear H1 O1 hx1 hx2 hh1 hh2
      obtain⟨x2,h2,d2,rfl,rfl,hx1,hx2,H1,O1⟩:=hcut
      go_upto_region 15 with fail
      go_cut [75] from 21 to 147 (fun vp wq=>∃ bb:Bool,vp=.bool bb∧Hid (SPost K Out γ w d2 wq))
      case first =>
       by_cases hh:h2=1
       ·subst hh
        cases wb <;>cases wp
        all_goals
         go_wp2_with fail
         go_meet
         case rel=>exact⟨_,rfl,H1⟩
       ·have hhz:(h2==1)=false:=by simp; omega
        cases wb <;>cases wp
        all_goals
         go_wp2_with fail
         go_meet
         case rel=>exact⟨_,rfl,H1⟩
      case rest =>
       clear H1
       obtain⟨bb,rfl,H1⟩:=hcut
       go_upto_if 75 with fail
       go_cut [] from 21 to 147 (fun wq=>∃ (d3:Array Nat),Hid (SPost K Out γ w d3 wq)∧Hid (Owed (ltf cf) a b d a' b' d3))
       case first =>
        cases bb with
        | false =>
          go_wp2_with fail
          go_meet
          case rel=>exact⟨d2,H1,O1⟩
        | true =>
          have HC:Calls Tryz.prog 151 #[.slice (some ⟨blk,off,none⟩) n cap,.int .i64 a',.int .i64 b',.func (.func g) fst cb] wc fun e w'=>∃ (r:Bool) (d3:Array Nat),e=.returned (.bool r)∧Hid (SPost K Out γ w d3 w')∧Hid (Owed (ltf cf) a b d a' b' d3)∧Hid (r=true→PdqPost K Out (ltf cf) a b d γ w w'):=by
           obtain⟨γ1,k1,k2,k3⟩:=H1.out
           refine (yL S eg wc cap a' b' (by omega) (by omega) hn γ1 d2 k1).mono ?_
           rintro e w' ⟨he,hp⟩
           have hsz:=O1.out.1
           obtain⟨q1,q2⟩:=partialInsertionSort_holds (lt:=ltf cf) hO.out d2 a' b' (by omega) (by omega) O1.out.2.1
           refine⟨_,_,he,SPost.and k2 k3 hp.out,O1.out.perm hbn q1,fun hr=>?_⟩
           obtain⟨r1,r2⟩:=O1.out.2.2 _ q1 (q2 hr)
           exact⟨_,r1,r2,SPost.and k2 k3 hp.out⟩
          clear H1 O1
          go_wp2_with fail
          refine HC.mono ?_
          rintro e w' ⟨r,d3,rfl,H1,O1,HP⟩
          clear HC
          cases r with
          | true =>
            have HP2:Hid _:=HP.out rfl
            clear HP
            go_wp2_with fail
            refine bodyPost_ret (results_none rfl _ _ _) rfl ?_
            exact⟨rfl,HP2⟩
          | false =>
            clear HP
            go_wp2_with fail
            go_meet
            case rel=>exact⟨d3,H1,O1⟩
       case rest =>
        clear H1 O1
        obtain⟨d3,H1,O1⟩:=hcut
        go_upto_region 17 with fail
        go_cut [97] from 21 to 147 (fun vp wq=>∃ bb:Bool,vp=.bool bb∧Hid (SPost K Out γ w d3 wq)∧Hid (bb=true→0<a'∧ltf cf d3[a' - 1]! d3[x2]! = false))
        case first =>
         by_cases ha0:a'=0
         ·have hg:decide ((0:Int)<(a':Int))=false:=by simp; omega
          have H2:Hid _:=S.pdrew H1.out
          clear H1
          go_region
          go_wp2_with fail
          go_meet
          case rel=>exact⟨false,rfl,H2,fun h=>by cases h⟩
         ·obtain⟨p,hp1,hp2⟩:∃ p,a'≤p+1∧p+1≤a':=⟨a' - 1,by omega,by omega⟩
          have HP:Hid (a' - 1=p):=show a' - 1=p by omega
          have ez:(a':Int) - 1=(p:Int):=by omega
          have e1:((p:Int):Int).toNat=p:=by omega
          have p1:(0:Int)≤(p:Int):=by omega
          have b1:((p:Int):Int)<(n:Int):=by omega
          have w1:IntKind.i64.wrap ((p:Int):Int)=(p:Int):=by rw[IntKind.wrap_i64];omega
          have e2:((x2:Int):Int).toNat=x2:=by omega
          have p2:(0:Int)≤(x2:Int):=by omega
          have b2:((x2:Int):Int)<(n:Int):=by omega
          have w2:IntKind.i64.wrap ((x2:Int):Int)=(x2:Int):=by rw[IntKind.wrap_i64];omega
          have c1:=S.pcell H1.out p (by omega)
          have c2:=S.pcell H1.out x2 (by omega)
          have hg:decide ((0:Int)<(a':Int))=true:=by simp; omega
          have hg2:decide (0<a')=true:=by simp; omega
          have hg3:0<a':=by omega
          have HC:=S.pcmp H1.out p x2 (by omega) (by omega)
          clear H1
          by_cases hc:cf d3[p]! d3[x2]!<0
          ·have hdc:decide (cf d3[p]! d3[x2]!<0)=true:=decide_eq_true hc
           go_still_tail 13,(by kernel_rfl)
           change wpList _ _ _ _ _ (World.drew _)
           go_wp2_with ((with_reducible refine HC.mono ?_);rintro e w' ⟨rfl,H3⟩)
           clear HC c1 c2 hdc
           go_meet
           case rel=>exact⟨false,rfl,H3,fun h=>by cases h⟩
          ·have hdc:decide (cf d3[p]! d3[x2]!<0)=false:=decide_eq_false hc
           go_still_tail 13,(by kernel_rfl)
           change wpList _ _ _ _ _ (World.drew _)
           go_wp2_with ((with_reducible refine HC.mono ?_);rintro e w' ⟨rfl,H3⟩)
           clear HC c1 c2 hdc
           go_meet
           case rel=>exact⟨true,rfl,H3,fun _=>⟨by omega,by rw[HP.out];exact decide_eq_false (by omega)⟩⟩
        case rest =>
         clear H1
         obtain⟨bb,rfl,H1,HQ⟩:=hcut
         cases bb with
         | true =>
           have HC:Calls Tryz.prog 152 #[.slice (some ⟨blk,off,none⟩) n cap,.int .i64 a',.int .i64 b',.int .i64 x2,.func (.func g) fst cb] wc fun e w'=>∃ (mid:Nat) (d4:Array Nat),e=.returned (.int .i64 mid)∧a'<mid∧mid≤b'∧Hid (SPost K Out γ w d4 w')∧Hid (Owed (ltf cf) a b d mid b' d4):=by
            obtain⟨γ1,k1,k2,k3⟩:=H1.out
            refine (partitionEqual_calls S eg wc cap a' b' x2 hx1 hx2 (by omega) hn γ1 d3 k1).mono ?_
            rintro e w' ⟨he,hp⟩
            obtain⟨ha0,hnl⟩:=HQ.out rfl
            obtain⟨mid,d4,hx⟩:∃ mid d4,partitionEqual (ltf cf) d3 a' b' x2=(mid,d4):=⟨_,_,rfl⟩
            rw[hx] at he hp
            have hsz:=O1.out.1
            obtain⟨m1,m2,m3,m4,m5⟩:=round_eq (lt:=ltf cf) hO.out (partitionEqual_holds (ltf cf)) ha0 hx1 hx2 (by omega) O1.out.2.1 hnl hx
            refine⟨mid,d4,he,m1,m2,SPost.and k2 k3 hp.out,m3.trans hsz,m4,fun d5 p5 s5=>?_⟩
            obtain⟨r1,r2⟩:=m5 d5 p5 s5
            exact O1.out.2.2 d5 r1 r2
           clear H1 O1 HQ
           go_wp2_with fail
           refine HC.mono ?_
           rintro e w' ⟨mid,d4,rfl,hm1,hm2,H1,O1⟩
           clear HC
           go_wp2_with fail
           go_roundg (b' - mid)
           case measure=>omega
           case rel=>exact⟨mid,b',lim2,wb,wp,d4,rfl,rfl,rfl,rfl,rfl,by omega,by omega,by omega,jR _,hl2,H1,O1⟩
         | false =>
           clear HQ
           have HC:Calls Tryz.prog 153 #[.slice (some ⟨blk,off,none⟩) n cap,.int .i64 a',.int .i64 b',.int .i64 x2,.func (.func g) fst cb] wc fun e w'=>∃ (mid:Nat) (ap:Bool) (d4:Array Nat),e=.returned (.tuple #[.int .i64 mid,.bool ap])∧a'≤mid∧mid<b'∧Hid (SPost K Out γ w d4 w')∧Hid (d4.size=d.size) ∧
            Hid (Sort.Below (ltf cf) a' mid d4)∧Hid (Sort.Below (ltf cf) (mid+1) b' d4)∧Hid (∀ L,PermIn a' mid d4 L→SortedIn (ltf cf) a' mid L→Owed (ltf cf) a b d (mid+1) b' L)∧Hid (∀ L,PermIn (mid+1) b' d4 L→SortedIn (ltf cf) (mid+1) b' L→Owed (ltf cf) a b d a' mid L):=by
            obtain⟨γ1,k1,k2,k3⟩:=H1.out
            refine (partition_calls S eg wc cap a' b' x2 hx1 hx2 (by omega) hn γ1 d3 k1).mono ?_
            rintro e w' ⟨he,hp⟩
            obtain⟨mid,ap,d4,hx⟩:∃ mid ap d4,Sort.partition (ltf cf) d3 a' b' x2=(mid,ap,d4):=⟨_,_,_,rfl⟩
            rw[hx] at he hp
            have hsz:=O1.out.1
            obtain⟨m1,m2,m3,m4,m5,m6,m7⟩:=round_part (lt:=ltf cf) hO.out (partition_holds (ltf cf)) hx1 hx2 (by omega) O1.out.2.1 hx
            refine⟨mid,ap,d4,he,m1,m2,SPost.and k2 k3 hp.out,m3.trans hsz,m4,m5,fun L p s=>?_,fun L p s=>?_⟩
            ·obtain⟨q1,q2⟩:=m6 L p s
             exact⟨p.1.trans (m3.trans hsz),q1,fun R pr sr=>by obtain⟨r1,r2⟩:=q2 R pr sr; exact O1.out.2.2 R r1 r2⟩
            ·obtain⟨q1,q2⟩:=m7 L p s
             exact⟨p.1.trans (m3.trans hsz),q1,fun R pr sr=>by obtain⟨r1,r2⟩:=q2 R pr sr; exact O1.out.2.2 R r1 r2⟩
           clear H1 O1
           go_wp2_with fail
           refine HC.mono ?_
           rintro e w' ⟨mid,ap,d4,rfl,hm1,hm2,H1,HZ,HBl,HBr,HL,HR⟩
           clear HC
           have IH2:∀ (a2 b2:Nat),b2 - a2<N→a2≤b2→b2≤n→Sort.Below (ltf cf) a2 b2 d4→Calls Tryz.prog 132 #[.slice (some ⟨blk,off,none⟩) n cap,.int .i64 a2,.int .i64 b2,.int .i64 lim2,.func (.func g) fst cb] w' fun e w2 =>
            e=.returned (.tuple #[])∧∃ L,Hid (PermIn a2 b2 d4 L)∧Hid (SortedIn (ltf cf) a2 b2 L)∧Hid (SPost K Out γ w L w2):=by
            intro a2 b2 h1 h2 h3 h4
            obtain⟨γ1,k1,k2,k3⟩:=H1.out
            refine (IH.out (b2 - a2) h1 w' cap a2 b2 lim2 γ1 d4 (jR _) h2 h3 hl2 h4 k1).mono ?_
            rintro e w2 ⟨he,hp⟩
            obtain⟨L,p1,p2,p3⟩:=hp.out
            exact⟨he,L,p1,p2,SPost.and k2 k3 p3⟩
           by_cases hlr:mid - a'<b' - mid
           ·have hlrz:(mid:Int) - (a':Int)<(b':Int) - (mid:Int):=by omega
            have HC:=IH2 a' mid (by omega) hm1 (by omega) HBl.out
            clear IH2 H1
            go_wp2_with fail
            refine HC.mono ?_
            rintro e w2 ⟨rfl,L,P1,P2,H1⟩
            clear HC
            have O1:Hid _:=HL.out L P1.out P2.out
            clear HL HR P1 P2
            go_wp2_with fail
            go_roundg (b' - (mid+1))
            case measure=>omega
            case rel=>exact⟨mid+1,b',lim2,_,ap,L,by go_num,rfl,rfl,rfl,rfl,by omega,by omega,by omega,jR _,hl2,H1,O1⟩
           ·have hlrz:¬ (mid:Int) - (a':Int)<(b':Int) - (mid:Int):=by omega
            have HC:=IH2 (mid+1) b' (by omega) (by omega) (by omega) HBr.out
            rw[show ((mid+1:Nat):Int)=(mid:Int)+1 from rfl] at HC
            clear IH2 H1
            go_wp2_with fail
            refine HC.mono ?_
            rintro e w2 ⟨rfl,L,P1,P2,H1⟩
            clear HC
            have O1:Hid _:=HR.out L P1.out P2.out
            clear HL HR P1 P2
            go_wp2_with fail
            go_roundg (mid - a')
            case measure=>omega
            case rel=>exact⟨a',mid,lim2,_,ap,L,rfl,rfl,rfl,rfl,rfl,by omega,by omega,by omega,jR _,hl2,H1,O1⟩
end
end Sr
