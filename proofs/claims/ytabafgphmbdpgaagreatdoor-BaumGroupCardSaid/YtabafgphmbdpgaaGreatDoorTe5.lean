/- Texts of this claim, joined: SortD. -/
import Derived.Test.YtabafgphmbdpgaaGreatDoorTe4
import Derived.Deep.CutBlock
import Derived.Deep.CutRange
set_option maxHeartbeats 8000000
set_option maxRecDepth 100000
namespace Sr
open Go Go.Proofs Go.RowKit Go.Sort
section
variable {g:FuncId} {fst cb:Array Value} {cf:Nat→Nat→Int} {blk off n:Nat} {Γ:Type} {K:Γ→Array Nat→World→Prop} {Out:Γ→Nat→Prop}
theorem scanUp_go {p:Nat→Bool}{d:Array Nat}{j i:Nat}(h:i≤j)(hp:p d[i]! = true): scanUp p d j i=scanUp p d j (i+1):=by
 conv=>lhs; rw[scanUp]
 simp[h,hp]
theorem zY {p:Nat→Bool}{d:Array Nat}{j i:Nat}(h:i≤j→p d[i]! = false): scanUp p d j i=i:=by
 rw[scanUp]
 by_cases hi:i≤j
 ·simp[hi,h hi]
 ·simp[hi]
theorem scanDown_go {p:Nat→Bool}{d:Array Nat}{j i:Nat}(h:i≤j+1)(hp:p d[j+1]! = true): scanDown p d i (j+1)=scanDown p d i j:=by
 conv=>lhs; rw[scanDown]
 simp[h,hp]
theorem zB {p:Nat→Bool}{d:Array Nat}{j i:Nat}(h:i≤j→p d[j]! = false): scanDown p d i j=j:=by
 cases j with
 | zero=>rfl
 | succ j =>
   rw[scanDown]
   by_cases hi:i≤j+1
   ·simp[hi,h hi]
   ·simp[hi]
section
variable {lt:Nat→Nat→Bool} {a i j i2 j2:Nat} {d:Array Nat}
theorem peq_stop (h1:scanUp (fun x=>!lt d[a]! x) d j i=i2)(h2:scanDown (fun x=>lt d[a]! x) d i2 j=j2)(h:i2 > j2): partEqLoop lt a i j d=(i2,d):=by
 rw[partEqLoop];simp only[h1,h2];rw[if_pos h]
theorem peq_go (h1:scanUp (fun x=>!lt d[a]! x) d j i=i2)(h2:scanDown (fun x=>lt d[a]! x) d i2 j=j2)(h:i2≤j2)(hi:i≤i2)(hj:j2≤j)(h0:1≤i2):
 partEqLoop lt a i j d=partEqLoop lt a (i2+1) (j2 - 1) (swp d i2 j2):=by
 rw[partEqLoop];simp only[h1,h2];rw[if_neg (by omega),dif_pos (by omega)]
theorem ploop_stop (h1:scanUp (fun x=>lt x d[a]!) d j i=i2)(h2:scanDown (fun x=>!lt x d[a]!) d i2 j=j2)(h:i2 > j2): partLoop lt a i j d=(j2,d):=by
 rw[partLoop];simp only[h1,h2];rw[if_pos h]
theorem ploop_go (h1:scanUp (fun x=>lt x d[a]!) d j i=i2)(h2:scanDown (fun x=>!lt x d[a]!) d i2 j=j2)(h:i2≤j2)(hi:i≤i2)(hj:j2≤j)(h0:1≤i2):
 partLoop lt a i j d=partLoop lt a (i2+1) (j2 - 1) (swp d i2 j2):=by
 rw[partLoop];simp only[h1,h2];rw[if_neg (by omega),dif_pos (by omega)]
end
theorem not_of_true {b:Bool}(h:b=true): (!b)=false:=by rw[h];rfl
theorem xC {b:Bool}(h:b=false): (!b)=true:=by rw[h];rfl
theorem partitionEqual_calls (S:SRow Tryz.prog g fst cb cf blk off n Γ K Out)(eg:∀ args w,(callFunc g args).run Tryz.prog w=.ok (.enter g args) w) 
 (w:World) (cap a b pv:Nat) (hap:a≤pv) (hpb:pv<b) (hb:b≤n) (hn:n≤1000000000) (γ:Γ) (d:Array Nat) (hK:K γ d w) :
 Calls Tryz.prog 152 #[.slice (some ⟨blk,off,none⟩) n cap,.int .i64 a,.int .i64 b,.int .i64 pv,.func (.func g) fst cb] w fun e w' =>
  e=.returned (.int .i64 (partitionEqual (ltf cf) d a b pv).1)∧Hid (SPost K Out γ w (partitionEqual (ltf cf) d a b pv).2 w'):=by
 have H1:Hid (SPost K Out γ w d w):=SPost.refl hK
 clear hK
 obtain⟨b,rfl⟩:∃ z,b=z+1:=⟨b - 1,by omega⟩
 have HF:Hid (∀ r,partEqLoop (ltf cf) a (a+1) b (swp d a pv)=r→partitionEqual (ltf cf) d a (b+1) pv=r):=fun r h=>by unfold partitionEqual; exact h
 go_enter Tryz.func152,Tryz.ntmps152
 have e1:((a:Int):Int).toNat=a:=by omega
 have p1:(0:Int)≤(a:Int):=by omega
 have b1:((a:Int):Int)<(n:Int):=by omega
 have w1:IntKind.i64.wrap ((a:Int):Int)=(a:Int):=by rw[IntKind.wrap_i64];omega
 have e2:((pv:Int):Int).toNat=pv:=by omega
 have p2:(0:Int)≤(pv:Int):=by omega
 have b2:((pv:Int):Int)<(n:Int):=by omega
 have w2:IntKind.i64.wrap ((pv:Int):Int)=(pv:Int):=by rw[IntKind.wrap_i64];omega
 have c1:=S.pcell H1.out (a) (by omega)
 have c2:=S.pcell H1.out (pv) (by omega)
 have f1:=S.pfree H1.out (a) (by omega)
 have f2:=S.pfree H1.out (pv) (by omega)
 obtain⟨u,c3⟩:=S.pcell2 H1.out (a) (pv) (by omega) (by omega) (.int .i64 (d[pv]!:Nat))
 have H2:Hid _:=S.pswap H1.out (a) (pv) (by omega) (by omega)
 clear H1
 go_wp2_with fail
 go_region
 clear c1 c2 f1 f2 c3
 clear e2 p2 b2 w2
 go_wp2_with fail
 go_loopg [11,12] (b+1) (fun g1 vi vj wr=>∃ (i j:Nat) (dk:Array Nat),vi=.int .i64 i∧vj=.int .i64 j∧a+1≤i∧i≤b+1∧a≤j∧j≤b∧j+1 - i≤g1∧Hid (SPost K Out γ w dk wr)∧Hid (partEqLoop (ltf cf) a (a+1) b (swp d a pv)=partEqLoop (ltf cf) a i j dk))
 case atStart=>exact⟨a+1,b,swp d a pv,by go_num,by go_num,by omega,by omega,by omega,by omega,by omega,H2,rfl⟩
 case round =>
  clear H2 e1 p1 b1 w1
  obtain⟨i,j,dk,rfl,rfl,hi0,hib,haj,hjb,hg1,H1,EL⟩:=hrel
  go_upto_block 2 with fail
  go_cut [11] from 31 to 49 (fun vi wq=>∃ (i2:Nat),vi=.int .i64 i2∧i≤i2∧(i2≤i∨i2≤j+1)∧Hid (SPost K Out γ w dk wq)∧Hid (scanUp (fun x=>!ltf cf dk[a]! x) dk j i=i2))
  case first =>
   go_wp2_with fail
   go_loopg [11] (j+1 - i) (fun g2 vi wr2=>∃ (q:Nat),vi=.int .i64 q∧i≤q∧(q≤i∨q≤j+1)∧j+1 - q≤g2∧Hid (SPost K Out γ w dk wr2)∧Hid (scanUp (fun x=>!ltf cf dk[a]! x) dk j i=scanUp (fun x=>!ltf cf dk[a]! x) dk j q))
   case atStart=>exact⟨i,rfl,by omega,by omega,by omega,H1,rfl⟩
   case round =>
    clear H1
    obtain⟨q,rfl,hq1,hq2,hq3,H2,E2⟩:=hrel
    by_cases hqj:q≤j
    ·have hg:decide ((q:Int)≤(j:Int))=true:=by simp; omega
     have e1:((q:Int):Int).toNat=q:=by omega
     have p1:(0:Int)≤(q:Int):=by omega
     have b1:((q:Int):Int)<(n:Int):=by omega
     have w1:IntKind.i64.wrap ((q:Int):Int)=(q:Int):=by rw[IntKind.wrap_i64];omega
     have e2:((a:Int):Int).toNat=a:=by omega
     have p2:(0:Int)≤(a:Int):=by omega
     have b2:((a:Int):Int)<(n:Int):=by omega
     have w2:IntKind.i64.wrap ((a:Int):Int)=(a:Int):=by rw[IntKind.wrap_i64];omega
     have c1:=S.pcell H2.out (a) (by omega)
     have c2:=S.pcell H2.out (q) (by omega)
     have HC:=S.pcmp H2.out (a) (q) (by omega) (by omega)
     clear H2
     by_cases hc:cf dk[a]! dk[q]!<0
     ·have hdc:decide (cf dk[a]! dk[q]!<0)=true:=decide_eq_true hc
      have E3:Hid (scanUp (fun x=>!ltf cf dk[a]! x) dk j i=q):=by show _=_; rw[E2.out,zY (fun _=>?_)];exact not_of_true (decide_eq_true hc)
      clear E2
      go_wp2_with fail
      go_still_tail 13,(by kernel_rfl)
      change wpList _ _ _ _ _ (World.drew _)
      go_wp2_with ((with_reducible refine HC.mono ?_);rintro e w' ⟨rfl,H3⟩)
      clear HC c1 c2 hdc
      go_meet
      case rel=>exact⟨q,rfl,hq1,hq2,H3,E3⟩
     ·have hdc:decide (cf dk[a]! dk[q]!<0)=false:=decide_eq_false hc
      have E3:Hid (scanUp (fun x=>!ltf cf dk[a]! x) dk j i=scanUp (fun x=>!ltf cf dk[a]! x) dk j (q+1)):=by show _=_; rw[E2.out,scanUp_go hqj];exact xC (decide_eq_false hc)
      clear E2
      go_wp2_with fail
      go_still_tail 13,(by kernel_rfl)
      change wpList _ _ _ _ _ (World.drew _)
      go_wp2_with ((with_reducible refine HC.mono ?_);rintro e w' ⟨rfl,H3⟩)
      clear HC c1 c2 hdc
      go_roundg (j+1 - (q+1))
      case measure=>omega
      case rel=>exact⟨q+1,by go_num,by omega,by omega,by omega,H3,E3⟩
    ·have hg:decide ((q:Int)≤(j:Int))=false:=by simp; omega
     have E3:Hid (scanUp (fun x=>!ltf cf dk[a]! x) dk j i=q):=by show _=_; rw[E2.out,zY (fun h=>absurd h hqj)]
     have H3:Hid _:=S.pdrew H2.out
     clear E2 H2
     go_wp2_with fail
     go_region
     go_wp2_with fail
     go_meet
     case rel=>exact⟨q,rfl,hq1,hq2,H3,E3⟩
  case rest =>
   clear H1
   obtain⟨i2,rfl,hi1,hi2,H1,EU⟩:=hcut
   go_upto_block 4 with fail
   go_cut [12] from 50 to 67 (fun vi wq=>∃ (j2:Nat),vi=.int .i64 j2∧j2≤j∧(j≤j2∨i2≤j2+1)∧Hid (SPost K Out γ w dk wq)∧Hid (scanDown (fun x=>ltf cf dk[a]! x) dk i2 j=j2))
   case first =>
    go_wp2_with fail
    go_loopg [12] (j+1) (fun g2 vi wr2=>∃ (q:Nat),vi=.int .i64 q∧q≤j∧(j≤q∨i2≤q+1)∧q+1≤g2∧Hid (SPost K Out γ w dk wr2)∧Hid (scanDown (fun x=>ltf cf dk[a]! x) dk i2 j=scanDown (fun x=>ltf cf dk[a]! x) dk i2 q))
    case atStart=>exact⟨j,rfl,by omega,by omega,by omega,H1,rfl⟩
    case round =>
     clear H1
     obtain⟨q,rfl,hq1,hq2,hq3,H2,E2⟩:=hrel
     by_cases hqj:i2≤q
     ·obtain⟨q,rfl⟩:∃ z,q=z+1:=⟨q - 1,by omega⟩
      have hg:decide ((i2:Int)≤(q:Int)+1)=true:=by simp; omega
      have e1:((q:Int)+1:Int).toNat=q+1:=by omega
      have p1:(0:Int)≤(q:Int)+1:=by omega
      have b1:((q:Int)+1:Int)<(n:Int):=by omega
      have w1:IntKind.i64.wrap ((q:Int)+1:Int)=(q:Int)+1:=by rw[IntKind.wrap_i64];omega
      have e2:((a:Int):Int).toNat=a:=by omega
      have p2:(0:Int)≤(a:Int):=by omega
      have b2:((a:Int):Int)<(n:Int):=by omega
      have w2:IntKind.i64.wrap ((a:Int):Int)=(a:Int):=by rw[IntKind.wrap_i64];omega
      have c1:=S.pcell H2.out (a) (by omega)
      have c2:=S.pcell H2.out (q+1) (by omega)
      have HC:=S.pcmp H2.out (a) (q+1) (by omega) (by omega)
      clear H2
      by_cases hc:cf dk[a]! dk[q+1]!<0
      ·have hdc:decide (cf dk[a]! dk[q+1]!<0)=true:=decide_eq_true hc
       have E3:Hid (scanDown (fun x=>ltf cf dk[a]! x) dk i2 j=scanDown (fun x=>ltf cf dk[a]! x) dk i2 q):=by show _=_; rw[E2.out,scanDown_go hqj];exact decide_eq_true hc
       clear E2
       go_wp2_with fail
       go_still_tail 13,(by kernel_rfl)
       change wpList _ _ _ _ _ (World.drew _)
       go_wp2_with ((with_reducible refine HC.mono ?_);rintro e w' ⟨rfl,H3⟩)
       clear HC c1 c2 hdc
       go_roundg (q+1)
       case measure=>omega
       case rel=>exact⟨q,by go_num,by omega,by omega,by omega,H3,E3⟩
      ·have hdc:decide (cf dk[a]! dk[q+1]!<0)=false:=decide_eq_false hc
       have E3:Hid (scanDown (fun x=>ltf cf dk[a]! x) dk i2 j=q+1):=by show _=_; rw[E2.out,zB (fun _=>?_)];exact decide_eq_false hc
       clear E2
       go_wp2_with fail
       go_still_tail 13,(by kernel_rfl)
       change wpList _ _ _ _ _ (World.drew _)
       go_wp2_with ((with_reducible refine HC.mono ?_);rintro e w' ⟨rfl,H3⟩)
       clear HC c1 c2 hdc
       go_meet
       case rel=>exact⟨q+1,by go_num,hq1,hq2,H3,E3⟩
     ·have hg:decide ((i2:Int)≤(q:Int))=false:=by simp; omega
      have E3:Hid (scanDown (fun x=>ltf cf dk[a]! x) dk i2 j=q):=by show _=_; rw[E2.out,zB (fun h=>absurd h hqj)]
      have H3:Hid _:=S.pdrew H2.out
      clear E2 H2
      go_wp2_with fail
      go_region
      go_wp2_with fail
      go_meet
      case rel=>exact⟨q,rfl,hq1,hq2,H3,E3⟩
   case rest =>
    clear H1
    obtain⟨j2,rfl,hj1,hj2,H1,ED⟩:=hcut
    by_cases hx:j2<i2
    ·have hxz:(j2:Int)<(i2:Int):=by omega
     have E4:Hid (partitionEqual (ltf cf) d a (b+1) pv=(i2,dk)):=HF.out _ (EL.out.trans (peq_stop EU.out ED.out hx))
     clear EL EU ED HF
     go_wp2_with fail
     go_ret
     rw[E4.out]
     exact⟨rfl,H1⟩
    ·have hxz:¬ (j2:Int)<(i2:Int):=by omega
     have E4:Hid (partEqLoop (ltf cf) a (a+1) b (swp d a pv)=partEqLoop (ltf cf) a (i2+1) (j2 - 1) (swp dk i2 j2)):=by
      show _=_; rw[EL.out,peq_go EU.out ED.out (by omega) (by omega) (by omega) (by omega)]
     clear EL EU ED
     have e1:((i2:Int):Int).toNat=i2:=by omega
     have p1:(0:Int)≤(i2:Int):=by omega
     have b1:((i2:Int):Int)<(n:Int):=by omega
     have w1:IntKind.i64.wrap ((i2:Int):Int)=(i2:Int):=by rw[IntKind.wrap_i64];omega
     have e2:((j2:Int):Int).toNat=j2:=by omega
     have p2:(0:Int)≤(j2:Int):=by omega
     have b2:((j2:Int):Int)<(n:Int):=by omega
     have w2:IntKind.i64.wrap ((j2:Int):Int)=(j2:Int):=by rw[IntKind.wrap_i64];omega
     have c1:=S.pcell H1.out (i2) (by omega)
     have c2:=S.pcell H1.out (j2) (by omega)
     have f1:=S.pfree H1.out (i2) (by omega)
     have f2:=S.pfree H1.out (j2) (by omega)
     obtain⟨u,c3⟩:=S.pcell2 H1.out (i2) (j2) (by omega) (by omega) (.int .i64 (dk[j2]!:Nat))
     have H2:Hid _:=S.pswap H1.out (i2) (j2) (by omega) (by omega)
     clear H1
     go_wp2_with fail
     go_region
     clear c1 c2 f1 f2 c3
     go_wp2_with fail
     go_roundg (j2 - 1+1 - (i2+1))
     case measure=>omega
     case rel=>exact⟨i2+1,j2 - 1,swp dk i2 j2,by go_num,by congr 1; omega,by omega,by omega,by omega,by omega,by omega,H2,E4⟩
end
end Sr
