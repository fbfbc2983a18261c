/- Texts of this claim, joined: SortE. -/
import Derived.Test.YtabafgphmbdpgaaGreatDoorTe1
import Derived.Test.YtabafgphmbdpgaaGreatDoorTe5
set_option maxHeartbeats 8000000
set_option maxRecDepth 100000
namespace Sr
open Go Go.Proofs Go.RowKit Go.Sort
section
variable {g:FuncId} {fst cb:Array Value} {cf:Nat→Nat→Int} {blk off n:Nat} {Γ:Type} {K:Γ→Array Nat→World→Prop} {Out:Γ→Nat→Prop}
theorem part_eq (lt:Nat→Nat→Bool)(d:Array Nat)(a b pivot i j:Nat)(h1:scanUp (fun x=>lt x (swp d a pivot)[a]!) (swp d a pivot) (b - 1) (a+1)=i) 
 (h2:scanDown (fun x=>!lt x (swp d a pivot)[a]!) (swp d a pivot) i (b - 1)=j) :
 Sort.partition lt d a b pivot=if i > j then (j,true,swp (swp d a pivot) j a) else
  ((partLoop lt a (i+1) (j - 1) (swp (swp d a pivot) i j)).1,false,swp (partLoop lt a (i+1) (j - 1) (swp (swp d a pivot) i j)).2 (partLoop lt a (i+1) (j - 1) (swp (swp d a pivot) i j)).1 a):=by
 unfold Sort.partition; simp only[h1,h2]
theorem partition_calls (S:SRow Tryz.prog g fst cb cf blk off n Γ K Out)(eg:∀ args w,(callFunc g args).run Tryz.prog w=.ok (.enter g args) w) 
 (w:World) (cap a b pv:Nat) (hap:a≤pv) (hpb:pv<b) (hb:b≤n) (hn:n≤1000000000) (γ:Γ) (d:Array Nat) (hK:K γ d w) :
 Calls Tryz.prog 153 #[.slice (some ⟨blk,off,none⟩) n cap,.int .i64 a,.int .i64 b,.int .i64 pv,.func (.func g) fst cb] w fun e w' =>
  e=.returned (.tuple #[.int .i64 (Sort.partition (ltf cf) d a b pv).1,.bool (Sort.partition (ltf cf) d a b pv).2.1])∧Hid (SPost K Out γ w (Sort.partition (ltf cf) d a b pv).2.2 w'):=by
 have H1:Hid (SPost K Out γ w d w):=SPost.refl hK
 clear hK
 obtain⟨jt,rfl⟩:∃ z,b=z+1:=⟨b - 1,by omega⟩
 obtain⟨dk,hdk⟩:∃ dk,dk=swp d a pv:=⟨_,rfl⟩
 have HF:Hid (∀ i2 j2,scanUp (fun x=>ltf cf x dk[a]!) dk jt (a+1)=i2→scanDown (fun x=>!ltf cf x dk[a]!) dk i2 jt=j2→Sort.partition (ltf cf) d a (jt+1) pv=if i2 > j2 then (j2,true,swp dk j2 a) else
  ((partLoop (ltf cf) a (i2+1) (j2 - 1) (swp dk i2 j2)).1,false,swp (partLoop (ltf cf) a (i2+1) (j2 - 1) (swp dk i2 j2)).2 (partLoop (ltf cf) a (i2+1) (j2 - 1) (swp dk i2 j2)).1 a)):=fun i2 j2 h1 h2=>by
  subst hdk; exact part_eq (ltf cf) d a (jt+1) pv i2 j2 h1 h2
 go_enter Tryz.func153,Tryz.ntmps153
 have e1:((a:Int):Int).toNat=a:=by omega
 have p1:(0:Int)≤(a:Int):=by omega
 have b1:((a:Int):Int)<(n:Int):=by omega
 have w1:IntKind.i64.wrap ((a:Int):Int)=(a:Int):=by rw[IntKind.wrap_i64];omega
 have e2:((pv:Int):Int).toNat=pv:=by omega
 have p2:(0:Int)≤(pv:Int):=by omega
 have b2:((pv:Int):Int)<(n:Int):=by omega
 have w2:IntKind.i64.wrap ((pv:Int):Int)=(pv:Int):=by rw[IntKind.wrap_i64];omega
 have HK:Hid (dk=swp d a pv):=hdk
 clear hdk
 have c1:=S.pcell H1.out (a) (by omega)
 have c2:=S.pcell H1.out (pv) (by omega)
 have f1:=S.pfree H1.out (a) (by omega)
 have f2:=S.pfree H1.out (pv) (by omega)
 obtain⟨u,c3⟩:=S.pcell2 H1.out (a) (pv) (by omega) (by omega) (.int .i64 (d[pv]!:Nat))
 have H2:Hid _:=S.pswap H1.out (a) (pv) (by omega) (by omega)
 clear H1
 go_wp2_with fail
 go_region
 clear c1 c2 f1 f2 c3
 rw[← HK.out] at H2
 clear e1 p1 b1 w1 e2 p2 b2 w2 HK
 obtain⟨i,hia,hia'⟩:∃ i,i≤a+1∧a+1≤i:=⟨a+1,jR _,jR _⟩
 have HI:Hid (i=a+1):=show i=a+1 by omega
 obtain⟨j,hjt,hjt'⟩:∃ j,j≤jt∧jt≤j:=⟨jt,jR _,jR _⟩
 have HJ:Hid (j=jt):=show j=jt by omega
 go_upto_block 0 with fail
 rw[show ((a:Int)+1)=(i:Int) from by omega,show (jt:Int)=(j:Int) from by omega]
 generalize ((w.setCell { block:=blk,off:=off+a } (Value.int IntKind.i64 ↑d[pv]!)).setCell { block:=blk,off:=off+pv } (Value.int IntKind.i64 ↑d[a]!)).drew=wz at H2 ⊢
 have H1:=H2
 clear H2
 go_upto_block 0 with fail
 go_cut [12] from 32 to 49 (fun vi wq=>∃ (i2:Nat),vi=.int .i64 i2∧i≤i2∧(i2≤i∨i2≤j+1)∧Hid (SPost K Out γ w dk wq)∧Hid (scanUp (fun x=>ltf cf x dk[a]!) dk j i=i2))
 case first =>
  go_wp2_with fail
  go_loopg [12] (j+1 - i) (fun g2 vi wr2=>∃ (q:Nat),vi=.int .i64 q∧i≤q∧(q≤i∨q≤j+1)∧j+1 - q≤g2∧Hid (SPost K Out γ w dk wr2)∧Hid (scanUp (fun x=>ltf cf x dk[a]!) dk j i=scanUp (fun x=>ltf cf x dk[a]!) dk j q))
  case atStart=>exact⟨i,rfl,by omega,by omega,by omega,H1,rfl⟩
  case round =>
   clear H1
   obtain⟨q,rfl,hq1,hq2,hq3,H2,E2⟩:=hrel
   by_cases hqj:q≤j
   ·have hg:decide ((q:Int)≤(j:Int))=true:=by simp; omega
    have e1:((q:Int):Int).toNat=q:=by omega
    have p1:(0:Int)≤(q:Int):=by omega
    have b1:((q:Int):Int)<(n:Int):=by omega
    have w1:IntKind.i64.wrap ((q:Int):Int)=(q:Int):=by rw[IntKind.wrap_i64];omega
    have e2:((a:Int):Int).toNat=a:=by omega
    have p2:(0:Int)≤(a:Int):=by omega
    have b2:((a:Int):Int)<(n:Int):=by omega
    have w2:IntKind.i64.wrap ((a:Int):Int)=(a:Int):=by rw[IntKind.wrap_i64];omega
    have c1:=S.pcell H2.out (q) (by omega)
    have c2:=S.pcell H2.out (a) (by omega)
    have HC:=S.pcmp H2.out (q) (a) (by omega) (by omega)
    clear H2
    by_cases hc:cf dk[q]! dk[a]!<0
    ·have hdc:decide (cf dk[q]! dk[a]!<0)=true:=decide_eq_true hc
     have E3:Hid (scanUp (fun x=>ltf cf x dk[a]!) dk j i=scanUp (fun x=>ltf cf x dk[a]!) dk j (q+1)):=by show _=_; rw[E2.out,scanUp_go hqj];exact decide_eq_true hc
     clear E2
     go_wp2_with fail
     go_still_tail 13,(by kernel_rfl)
     change wpList _ _ _ _ _ (World.drew _)
     go_wp2_with ((with_reducible refine HC.mono ?_);rintro e w' ⟨rfl,H3⟩)
     clear HC c1 c2 hdc
     go_roundg (j+1 - (q+1))
     case measure=>omega
     case rel=>exact⟨q+1,by go_num,by omega,by omega,by omega,H3,E3⟩
    ·have hdc:decide (cf dk[q]! dk[a]!<0)=false:=decide_eq_false hc
     have E3:Hid (scanUp (fun x=>ltf cf x dk[a]!) dk j i=q):=by show _=_; rw[E2.out,zY (fun _=>?_)];exact decide_eq_false hc
     clear E2
     go_wp2_with fail
     go_still_tail 13,(by kernel_rfl)
     change wpList _ _ _ _ _ (World.drew _)
     go_wp2_with ((with_reducible refine HC.mono ?_);rintro e w' ⟨rfl,H3⟩)
     clear HC c1 c2 hdc
     go_meet
     case rel=>exact⟨q,rfl,hq1,hq2,H3,E3⟩
   ·have hg:decide ((q:Int)≤(j:Int))=false:=by simp; omega
    have E3:Hid (scanUp (fun x=>ltf cf x dk[a]!) dk j i=q):=by show _=_; rw[E2.out,zY (fun h=>absurd h hqj)]
    have H3:Hid _:=S.pdrew H2.out
    clear E2 H2
    go_wp2_with fail
    go_region
    go_wp2_with fail
    go_meet
    case rel=>exact⟨q,rfl,hq1,hq2,H3,E3⟩
 case rest =>
  clear H1
  obtain⟨i2,rfl,hi1,hi2,H1,EU⟩:=hcut
  go_upto_block 2 with fail
  go_cut [13] from 50 to 68 (fun vi wq=>∃ (j2:Nat),vi=.int .i64 j2∧j2≤j∧(j≤j2∨i2≤j2+1)∧Hid (SPost K Out γ w dk wq)∧Hid (scanDown (fun x=>!ltf cf x dk[a]!) dk i2 j=j2))
  case first =>
   go_wp2_with fail
   go_loopg [13] (j+1) (fun g2 vi wr2=>∃ (q:Nat),vi=.int .i64 q∧q≤j∧(j≤q∨i2≤q+1)∧q+1≤g2∧Hid (SPost K Out γ w dk wr2)∧Hid (scanDown (fun x=>!ltf cf x dk[a]!) dk i2 j=scanDown (fun x=>!ltf cf x dk[a]!) dk i2 q))
   case atStart=>exact⟨j,rfl,by omega,by omega,by omega,H1,rfl⟩
   case round =>
    clear H1
    obtain⟨q,rfl,hq1,hq2,hq3,H2,E2⟩:=hrel
    by_cases hqj:i2≤q
    ·obtain⟨q,rfl⟩:∃ z,q=z+1:=⟨q - 1,by omega⟩
     have hg:decide ((i2:Int)≤(q:Int)+1)=true:=by simp; omega
     have e1:((q:Int)+1:Int).toNat=q+1:=by omega
     have p1:(0:Int)≤(q:Int)+1:=by omega
     have b1:((q:Int)+1:Int)<(n:Int):=by omega
     have w1:IntKind.i64.wrap ((q:Int)+1:Int)=(q:Int)+1:=by rw[IntKind.wrap_i64];omega
     have e2:((a:Int):Int).toNat=a:=by omega
     have p2:(0:Int)≤(a:Int):=by omega
     have b2:((a:Int):Int)<(n:Int):=by omega
     have w2:IntKind.i64.wrap ((a:Int):Int)=(a:Int):=by rw[IntKind.wrap_i64];omega
     have c1:=S.pcell H2.out (q+1) (by omega)
     have c2:=S.pcell H2.out (a) (by omega)
     have HC:=S.pcmp H2.out (q+1) (a) (by omega) (by omega)
     clear H2
     by_cases hc:cf dk[q+1]! dk[a]!<0
     ·have hdc:decide (cf dk[q+1]! dk[a]!<0)=true:=decide_eq_true hc
      have E3:Hid (scanDown (fun x=>!ltf cf x dk[a]!) dk i2 j=q+1):=by show _=_; rw[E2.out,zB (fun _=>?_)];exact not_of_true (decide_eq_true hc)
      clear E2
      go_wp2_with fail
      go_still_tail 13,(by kernel_rfl)
      change wpList _ _ _ _ _ (World.drew _)
      go_wp2_with ((with_reducible refine HC.mono ?_);rintro e w' ⟨rfl,H3⟩)
      clear HC c1 c2 hdc
      go_meet
      case rel=>exact⟨q+1,by go_num,hq1,hq2,H3,E3⟩
     ·have hdc:decide (cf dk[q+1]! dk[a]!<0)=false:=decide_eq_false hc
      have E3:Hid (scanDown (fun x=>!ltf cf x dk[a]!) dk i2 j=scanDown (fun x=>!ltf cf x dk[a]!) dk i2 q):=by show _=_; rw[E2.out,scanDown_go hqj];exact xC (decide_eq_false hc)
      clear E2
      go_wp2_with fail
      go_still_tail 13,(by kernel_rfl)
      change wpList _ _ _ _ _ (World.drew _)
      go_wp2_with ((with_reducible refine HC.mono ?_);rintro e w' ⟨rfl,H3⟩)
      clear HC c1 c2 hdc
      go_roundg (q+1)
      case measure=>omega
      case rel=>exact⟨q,by go_num,by omega,by omega,by omega,H3,E3⟩
    ·have hg:decide ((i2:Int)≤(q:Int))=false:=by simp; omega
     have E3:Hid (scanDown (fun x=>!ltf cf x dk[a]!) dk i2 j=q):=by show _=_; rw[E2.out,zB (fun h=>absurd h hqj)]
     have H3:Hid _:=S.pdrew H2.out
     clear E2 H2
     go_wp2_with fail
     go_region
     go_wp2_with fail
     go_meet
     case rel=>exact⟨q,rfl,hq1,hq2,H3,E3⟩
  case rest =>
   clear H1
   obtain⟨j2,rfl,hj1,hj2,H1,ED⟩:=hcut
   have EP:Hid _:=HF.out i2 j2 (HJ.out▸HI.out▸EU.out) (HJ.out▸ED.out)
   clear HF HI HJ EU ED
   by_cases hx:j2<i2
   ·have hxz:(j2:Int)<(i2:Int):=by omega
    replace EP:Hid (Sort.partition (ltf cf) d a (jt+1) pv=(j2,true,swp dk j2 a)):=by
     show _=_; rw[EP.out,if_pos hx]
    have e1:((j2:Int):Int).toNat=j2:=by omega
    have p1:(0:Int)≤(j2:Int):=by omega
    have b1:((j2:Int):Int)<(n:Int):=by omega
    have w1:IntKind.i64.wrap ((j2:Int):Int)=(j2:Int):=by rw[IntKind.wrap_i64];omega
    have e2:((a:Int):Int).toNat=a:=by omega
    have p2:(0:Int)≤(a:Int):=by omega
    have b2:((a:Int):Int)<(n:Int):=by omega
    have w2:IntKind.i64.wrap ((a:Int):Int)=(a:Int):=by rw[IntKind.wrap_i64];omega
    go_upto_region 8 with fail
    have c1:=S.pcell H1.out (j2) (by omega)
    have c2:=S.pcell H1.out (a) (by omega)
    have f1:=S.pfree H1.out (j2) (by omega)
    have f2:=S.pfree H1.out (a) (by omega)
    obtain⟨u,c3⟩:=S.pcell2 H1.out (j2) (a) (by omega) (by omega) (.int .i64 (dk[a]!:Nat))
    have H2:Hid _:=S.pswap H1.out (j2) (a) (by omega) (by omega)
    clear H1
    go_wp2_with fail
    go_region
    clear c1 c2 f1 f2 c3
    go_wp2_with fail
    go_ret2
    rw[EP.out]
    exact⟨rfl,H2⟩
   ·have hxz:¬ (j2:Int)<(i2:Int):=by omega
    replace EP:Hid (Sort.partition (ltf cf) d a (jt+1) pv=((partLoop (ltf cf) a (i2+1) (j2 - 1) (swp dk i2 j2)).1,false,swp (partLoop (ltf cf) a (i2+1) (j2 - 1) (swp dk i2 j2)).2 (partLoop (ltf cf) a (i2+1) (j2 - 1) (swp dk i2 j2)).1 a)):=by
     show _=_; rw[EP.out,if_neg hx]
    have e1:((i2:Int):Int).toNat=i2:=by omega
    have p1:(0:Int)≤(i2:Int):=by omega
    have b1:((i2:Int):Int)<(n:Int):=by omega
    have w1:IntKind.i64.wrap ((i2:Int):Int)=(i2:Int):=by rw[IntKind.wrap_i64];omega
    have e2:((j2:Int):Int).toNat=j2:=by omega
    have p2:(0:Int)≤(j2:Int):=by omega
    have b2:((j2:Int):Int)<(n:Int):=by omega
    have w2:IntKind.i64.wrap ((j2:Int):Int)=(j2:Int):=by rw[IntKind.wrap_i64];omega
    go_upto_region 10 with fail
    have c1:=S.pcell H1.out (i2) (by omega)
    have c2:=S.pcell H1.out (j2) (by omega)
    have f1:=S.pfree H1.out (i2) (by omega)
    have f2:=S.pfree H1.out (j2) (by omega)
    obtain⟨u,c3⟩:=S.pcell2 H1.out (i2) (j2) (by omega) (by omega) (.int .i64 (dk[j2]!:Nat))
    have H2:Hid _:=S.pswap H1.out (i2) (j2) (by omega) (by omega)
    clear H1
    go_wp2_with fail
    go_region
    clear c1 c2 f1 f2 c3
    clear e1 p1 b1 w1 e2 p2 b2 w2
    obtain⟨i3,hi3⟩:∃ i3,i3=i2+1:=⟨_,rfl⟩
    obtain⟨j3,hj3⟩:∃ j3,j3=j2 - 1:=⟨_,rfl⟩
    obtain⟨d3,hd3⟩:∃ d3,d3=swp dk i2 j2:=⟨_,rfl⟩
    rw[← hi3,← hj3,← hd3] at EP
    rw[← hd3] at H2
    have hb1:a+1≤i3∧i3≤jt+1∧a≤j3∧j3≤jt:=by omega
    have ez1:((i2:Int)+1)=(i3:Int):=by omega
    have ez2:((j2:Int) - 1)=(j3:Int):=by omega
    clear hi3 hj3 hd3
    obtain⟨hb1,hb2,hb3,hb4⟩:=hb1
    go_wp2_with fail
    go_loopg [12,13] (jt+1) (fun g1 vi vj wr=>∃ (i j:Nat) (dk:Array Nat),vi=.int .i64 i∧vj=.int .i64 j∧a+1≤i∧i≤jt+1∧a≤j∧j≤jt∧j+1 - i≤g1∧Hid (SPost K Out γ w dk wr)∧Hid (partLoop (ltf cf) a i3 j3 d3=partLoop (ltf cf) a i j dk))
    case atStart=>exact⟨i3,j3,d3,by first | rfl | (congr 1; omega),by first | rfl | (congr 1; omega),by omega,by omega,by omega,by omega,by omega,H2,rfl⟩
    case round =>
     clear H2 ez1 ez2 hxz hi1 hi2 hj1 hj2 hx hia hia' hjt hjt'
     obtain⟨i,j,dk,rfl,rfl,hi0,hib,haj,hjb,hg1,H1,EL⟩:=hrel
     go_upto_block 6 with fail
     go_cut [12] from 105 to 122 (fun vi wq=>∃ (i2:Nat),vi=.int .i64 i2∧i≤i2∧(i2≤i∨i2≤j+1)∧Hid (SPost K Out γ w dk wq)∧Hid (scanUp (fun x=>ltf cf x dk[a]!) dk j i=i2))
     case first =>
      go_wp2_with fail
      go_loopg [12] (j+1 - i) (fun g2 vi wr2=>∃ (q:Nat),vi=.int .i64 q∧i≤q∧(q≤i∨q≤j+1)∧j+1 - q≤g2∧Hid (SPost K Out γ w dk wr2)∧Hid (scanUp (fun x=>ltf cf x dk[a]!) dk j i=scanUp (fun x=>ltf cf x dk[a]!) dk j q))
      case atStart=>exact⟨i,rfl,by omega,by omega,by omega,H1,rfl⟩
      case round =>
       clear H1
       obtain⟨q,rfl,hq1,hq2,hq3,H2,E2⟩:=hrel
       by_cases hqj:q≤j
       ·have hg:decide ((q:Int)≤(j:Int))=true:=by simp; omega
        have e1:((q:Int):Int).toNat=q:=by omega
        have p1:(0:Int)≤(q:Int):=by omega
        have b1:((q:Int):Int)<(n:Int):=by omega
        have w1:IntKind.i64.wrap ((q:Int):Int)=(q:Int):=by rw[IntKind.wrap_i64];omega
        have e2:((a:Int):Int).toNat=a:=by omega
        have p2:(0:Int)≤(a:Int):=by omega
        have b2:((a:Int):Int)<(n:Int):=by omega
        have w2:IntKind.i64.wrap ((a:Int):Int)=(a:Int):=by rw[IntKind.wrap_i64];omega
        have c1:=S.pcell H2.out (q) (by omega)
        have c2:=S.pcell H2.out (a) (by omega)
        have HC:=S.pcmp H2.out (q) (a) (by omega) (by omega)
        clear H2
        by_cases hc:cf dk[q]! dk[a]!<0
        ·have hdc:decide (cf dk[q]! dk[a]!<0)=true:=decide_eq_true hc
         have E3:Hid (scanUp (fun x=>ltf cf x dk[a]!) dk j i=scanUp (fun x=>ltf cf x dk[a]!) dk j (q+1)):=by show _=_; rw[E2.out,scanUp_go hqj];exact decide_eq_true hc
         clear E2
         go_wp2_with fail
         go_still_tail 13,(by kernel_rfl)
         change wpList _ _ _ _ _ (World.drew _)
         go_wp2_with ((with_reducible refine HC.mono ?_);rintro e w' ⟨rfl,H3⟩)
         clear HC c1 c2 hdc
         go_roundg (j+1 - (q+1))
         case measure=>omega
         case rel=>exact⟨q+1,by go_num,by omega,by omega,by omega,H3,E3⟩
        ·have hdc:decide (cf dk[q]! dk[a]!<0)=false:=decide_eq_false hc
         have E3:Hid (scanUp (fun x=>ltf cf x dk[a]!) dk j i=q):=by show _=_; rw[E2.out,zY (fun _=>?_)];exact decide_eq_false hc
         clear E2
         go_wp2_with fail
         go_still_tail 13,(by kernel_rfl)
         change wpList _ _ _ _ _ (World.drew _)
         go_wp2_with ((with_reducible refine HC.mono ?_);rintro e w' ⟨rfl,H3⟩)
         clear HC c1 c2 hdc
         go_meet
         case rel=>exact⟨q,rfl,hq1,hq2,H3,E3⟩
       ·have hg:decide ((q:Int)≤(j:Int))=false:=by simp; omega
        have E3:Hid (scanUp (fun x=>ltf cf x dk[a]!) dk j i=q):=by show _=_; rw[E2.out,zY (fun h=>absurd h hqj)]
        have H3:Hid _:=S.pdrew H2.out
        clear E2 H2
        go_wp2_with fail
        go_region
        go_wp2_with fail
        go_meet
        case rel=>exact⟨q,rfl,hq1,hq2,H3,E3⟩
     case rest =>
      clear H1
      obtain⟨i2,rfl,hi1,hi2,H1,EU⟩:=hcut
      go_upto_block 8 with fail
      go_cut [13] from 123 to 141 (fun vi wq=>∃ (j2:Nat),vi=.int .i64 j2∧j2≤j∧(j≤j2∨i2≤j2+1)∧Hid (SPost K Out γ w dk wq)∧Hid (scanDown (fun x=>!ltf cf x dk[a]!) dk i2 j=j2))
      case first =>
       go_wp2_with fail
       go_loopg [13] (j+1) (fun g2 vi wr2=>∃ (q:Nat),vi=.int .i64 q∧q≤j∧(j≤q∨i2≤q+1)∧q+1≤g2∧Hid (SPost K Out γ w dk wr2)∧Hid (scanDown (fun x=>!ltf cf x dk[a]!) dk i2 j=scanDown (fun x=>!ltf cf x dk[a]!) dk i2 q))
       case atStart=>exact⟨j,rfl,by omega,by omega,by omega,H1,rfl⟩
       case round =>
        clear H1
        obtain⟨q,rfl,hq1,hq2,hq3,H2,E2⟩:=hrel
        by_cases hqj:i2≤q
        ·obtain⟨q,rfl⟩:∃ z,q=z+1:=⟨q - 1,by omega⟩
         have hg:decide ((i2:Int)≤(q:Int)+1)=true:=by simp; omega
         have e1:((q:Int)+1:Int).toNat=q+1:=by omega
         have p1:(0:Int)≤(q:Int)+1:=by omega
         have b1:((q:Int)+1:Int)<(n:Int):=by omega
         have w1:IntKind.i64.wrap ((q:Int)+1:Int)=(q:Int)+1:=by rw[IntKind.wrap_i64];omega
         have e2:((a:Int):Int).toNat=a:=by omega
         have p2:(0:Int)≤(a:Int):=by omega
         have b2:((a:Int):Int)<(n:Int):=by omega
         have w2:IntKind.i64.wrap ((a:Int):Int)=(a:Int):=by rw[IntKind.wrap_i64];omega
         have c1:=S.pcell H2.out (q+1) (by omega)
         have c2:=S.pcell H2.out (a) (by omega)
         have HC:=S.pcmp H2.out (q+1) (a) (by omega) (by omega)
         clear H2
         by_cases hc:cf dk[q+1]! dk[a]!<0
         ·have hdc:decide (cf dk[q+1]! dk[a]!<0)=true:=decide_eq_true hc
          have E3:Hid (scanDown (fun x=>!ltf cf x dk[a]!) dk i2 j=q+1):=by show _=_; rw[E2.out,zB (fun _=>?_)];exact not_of_true (decide_eq_true hc)
          clear E2
          go_wp2_with fail
          go_still_tail 13,(by kernel_rfl)
          change wpList _ _ _ _ _ (World.drew _)
          go_wp2_with ((with_reducible refine HC.mono ?_);rintro e w' ⟨rfl,H3⟩)
          clear HC c1 c2 hdc
          go_meet
          case rel=>exact⟨q+1,by go_num,hq1,hq2,H3,E3⟩
         ·have hdc:decide (cf dk[q+1]! dk[a]!<0)=false:=decide_eq_false hc
          have E3:Hid (scanDown (fun x=>!ltf cf x dk[a]!) dk i2 j=scanDown (fun x=>!ltf cf x dk[a]!) dk i2 q):=by show _=_; rw[E2.out,scanDown_go hqj];exact xC (decide_eq_false hc)
          clear E2
          go_wp2_with fail
          go_still_tail 13,(by kernel_rfl)
          change wpList _ _ _ _ _ (World.drew _)
          go_wp2_with ((with_reducible refine HC.mono ?_);rintro e w' ⟨rfl,H3⟩)
          clear HC c1 c2 hdc
          go_roundg (q+1)
          case measure=>omega
          case rel=>exact⟨q,by go_num,by omega,by omega,by omega,H3,E3⟩
        ·have hg:decide ((i2:Int)≤(q:Int))=false:=by simp; omega
         have E3:Hid (scanDown (fun x=>!ltf cf x dk[a]!) dk i2 j=q):=by show _=_; rw[E2.out,zB (fun h=>absurd h hqj)]
         have H3:Hid _:=S.pdrew H2.out
         clear E2 H2
         go_wp2_with fail
         go_region
         go_wp2_with fail
         go_meet
         case rel=>exact⟨q,rfl,hq1,hq2,H3,E3⟩
      case rest =>
       clear H1
       obtain⟨j2,rfl,hj1,hj2,H1,ED⟩:=hcut
       by_cases hx:j2<i2
       ·have hxz:(j2:Int)<(i2:Int):=by omega
        have E4:Hid (Sort.partition (ltf cf) d a (jt+1) pv=(j2,false,swp dk j2 a)):=by
         show _=_; rw[EP.out,EL.out,ploop_stop EU.out ED.out hx]
        clear EL EU ED EP
        have e1:((j2:Int):Int).toNat=j2:=by omega
        have p1:(0:Int)≤(j2:Int):=by omega
        have b1:((j2:Int):Int)<(n:Int):=by omega
        have w1:IntKind.i64.wrap ((j2:Int):Int)=(j2:Int):=by rw[IntKind.wrap_i64];omega
        have e2:((a:Int):Int).toNat=a:=by omega
        have p2:(0:Int)≤(a:Int):=by omega
        have b2:((a:Int):Int)<(n:Int):=by omega
        have w2:IntKind.i64.wrap ((a:Int):Int)=(a:Int):=by rw[IntKind.wrap_i64];omega
        go_upto_region 21 with fail
        have c1:=S.pcell H1.out (j2) (by omega)
        have c2:=S.pcell H1.out (a) (by omega)
        have f1:=S.pfree H1.out (j2) (by omega)
        have f2:=S.pfree H1.out (a) (by omega)
        obtain⟨u,c3⟩:=S.pcell2 H1.out (j2) (a) (by omega) (by omega) (.int .i64 (dk[a]!:Nat))
        have H2:Hid _:=S.pswap H1.out (j2) (a) (by omega) (by omega)
        clear H1
        go_wp2_with fail
        go_region
        clear c1 c2 f1 f2 c3
        go_wp2_with fail
        go_ret2
        rw[E4.out]
        exact⟨rfl,H2⟩
       ·have hxz:¬ (j2:Int)<(i2:Int):=by omega
        have E4:Hid (partLoop (ltf cf) a i3 j3 d3=partLoop (ltf cf) a (i2+1) (j2 - 1) (swp dk i2 j2)):=by
         show _=_; rw[EL.out,ploop_go EU.out ED.out (by omega) (by omega) (by omega) (by omega)]
        clear EL EU ED
        have e1:((i2:Int):Int).toNat=i2:=by omega
        have p1:(0:Int)≤(i2:Int):=by omega
        have b1:((i2:Int):Int)<(n:Int):=by omega
        have w1:IntKind.i64.wrap ((i2:Int):Int)=(i2:Int):=by rw[IntKind.wrap_i64];omega
        have e2:((j2:Int):Int).toNat=j2:=by omega
        have p2:(0:Int)≤(j2:Int):=by omega
        have b2:((j2:Int):Int)<(n:Int):=by omega
        have w2:IntKind.i64.wrap ((j2:Int):Int)=(j2:Int):=by rw[IntKind.wrap_i64];omega
        go_upto_region 18 with fail
        have c1:=S.pcell H1.out (i2) (by omega)
        have c2:=S.pcell H1.out (j2) (by omega)
        have f1:=S.pfree H1.out (i2) (by omega)
        have f2:=S.pfree H1.out (j2) (by omega)
        obtain⟨u,c3⟩:=S.pcell2 H1.out (i2) (j2) (by omega) (by omega) (.int .i64 (dk[j2]!:Nat))
        have H2:Hid _:=S.pswap H1.out (i2) (j2) (by omega) (by omega)
        clear H1
        go_wp2_with fail
        go_region
        clear c1 c2 f1 f2 c3
        go_wp2_with fail
        go_roundg (j2 - 1+1 - (i2+1))
        case measure=>omega
        case rel=>exact⟨i2+1,j2 - 1,swp dk i2 j2,by go_num,by congr 1; omega,by omega,by omega,by omega,by omega,by omega,H2,E4⟩
end
end Sr
