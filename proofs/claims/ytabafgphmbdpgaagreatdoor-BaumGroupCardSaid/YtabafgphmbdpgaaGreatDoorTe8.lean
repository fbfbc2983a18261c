/- Texts of this claim, joined: SortB. -/
import Derived.Test.YtabafgphmbdpgaaGreatDoorTe4
set_option maxHeartbeats 8000000
set_option maxRecDepth 100000
namespace Sr
open Go Go.Proofs Go.RowKit Go.Sort
section
variable {g:FuncId} {fst cb:Array Value} {cf:Nat→Nat→Int} {blk off n:Nat} {Γ:Type} {K:Γ→Array Nat→World→Prop} {Out:Γ→Nat→Prop}
section
variable {lt:Nat→Nat→Bool} {hi first root:Nat} {d:Array Nat}
theorem sift_end (h:2*root+1≥hi): siftDown lt hi first root d=d:=by rw[siftDown];simp[h]
theorem sift_r (h2:2*root+2<hi)(h3:lt d[first+(2*root+1)]! d[first+(2*root+2)]! = true):
 siftDown lt hi first root d=if lt d[first+root]! d[first+(2*root+2)]! then siftDown lt hi first (2*root+2) (swp d (first+root) (first+(2*root+2))) else d:=by
 conv=>lhs; rw[siftDown]
 rw[dif_neg (by omega),if_pos (by rw[show first+(2*root+1)+1=first+(2*root+2) by omega,h3];simp; omega)]
 cases lt d[first+root]! d[first+(2*root+2)]! <;>simp[h2]
theorem sift_l (h1:2*root+1<hi)(h3:2*root+2<hi→lt d[first+(2*root+1)]! d[first+(2*root+2)]! = false):
 siftDown lt hi first root d=if lt d[first+root]! d[first+(2*root+1)]! then siftDown lt hi first (2*root+1) (swp d (first+root) (first+(2*root+1))) else d:=by
 conv=>lhs; rw[siftDown]
 rw[dif_neg (by omega),if_neg (by
  rw[show first+(2*root+1)+1=first+(2*root+2) by omega]
  by_cases h2:2*root+2<hi
  ·simp[h3 h2]
  ·simp; omega)]
 cases lt d[first+root]! d[first+(2*root+1)]! <;>simp
end
theorem siftDown_calls (S:SRow Tryz.prog g fst cb cf blk off n Γ K Out)(eg:∀ args w,(callFunc g args).run Tryz.prog w=.ok (.enter g args) w) 
 (w:World) (cap lo hi first:Nat) (hb:first+hi≤n) (hlo:lo≤n) (hn:n≤1000000000) (γ:Γ) (d:Array Nat) (hK:K γ d w) :
 Calls Tryz.prog 161 #[.slice (some ⟨blk,off,none⟩) n cap,.int .i64 lo,.int .i64 hi,.int .i64 first,.func (.func g) fst cb] w fun e w' =>
  e=.returned (.tuple #[])∧Hid (SPost K Out γ w (siftDown (ltf cf) hi first lo d) w'):=by
 have H0:Hid (SPost K Out γ w d w):=SPost.refl hK
 clear hK
 go_enter Tryz.func161,Tryz.ntmps161
 go_wp2_with fail
 go_loopg [10] (hi - lo) (fun g1 vr wr=>∃ (root:Nat) (dk:Array Nat),vr=.int .i64 root∧root≤n∧hi - root≤g1∧Hid (SPost K Out γ w dk wr)∧Hid (siftDown (ltf cf) hi first root dk=siftDown (ltf cf) hi first lo d))
 case atStart=>exact⟨lo,d,by go_num,by omega,by omega,H0,rfl⟩
 case round =>
  clear H0
  obtain⟨root,dk,rfl,hr,hg1,H1,E1⟩:=hrel
  have w8:IntKind.i64.wrap (2*(root:Int):Int)=2*(root:Int):=by rw[IntKind.wrap_i64];omega
  have w9:IntKind.i64.wrap (2*(root:Int)+1:Int)=2*(root:Int)+1:=by rw[IntKind.wrap_i64];omega
  by_cases hend:2*root+1≥hi
  ·have hz:(hi:Int)≤2*(root:Int)+1:=by omega
   have E2:Hid (dk=siftDown (ltf cf) hi first lo d):=by show _=_; rw[← E1.out,sift_end hend]
   go_wp2_with fail
   go_end0
   exact⟨rfl,by rw[← E2.out];exact H1⟩
  ·have hz:2*(root:Int)+1<(hi:Int):=by omega
   have w10:IntKind.i64.wrap (2*(root:Int)+1+1:Int)=2*(root:Int)+1+1:=by rw[IntKind.wrap_i64];omega
   by_cases h2:2*root+2<hi
   ·have hd:decide (2*(root:Int)+1+1<(hi:Int))=true:=by simp; omega
    have e1:((first:Int)+(2*(root:Int)+1):Int).toNat=first+(2*root+1):=by omega
    have p1:(0:Int)≤(first:Int)+(2*(root:Int)+1):=by omega
    have b1:((first:Int)+(2*(root:Int)+1):Int)<(n:Int):=by omega
    have w1:IntKind.i64.wrap ((first:Int)+(2*(root:Int)+1):Int)=(first:Int)+(2*(root:Int)+1):=by rw[IntKind.wrap_i64];omega
    have e2:((first:Int)+(2*(root:Int)+1)+1:Int).toNat=first+(2*root+2):=by omega
    have p2:(0:Int)≤(first:Int)+(2*(root:Int)+1)+1:=by omega
    have b2:((first:Int)+(2*(root:Int)+1)+1:Int)<(n:Int):=by omega
    have w2:IntKind.i64.wrap ((first:Int)+(2*(root:Int)+1)+1:Int)=(first:Int)+(2*(root:Int)+1)+1:=by rw[IntKind.wrap_i64];omega
    have c1:=S.pcell H1.out (first+(2*root+1)) (by omega)
    have c2:=S.pcell H1.out (first+(2*root+2)) (by omega)
    have HC:=S.pcmp H1.out (first+(2*root+1)) (first+(2*root+2)) (by omega) (by omega)
    by_cases hc0:cf dk[first+(2*root+1)]! dk[first+(2*root+2)]!<0
    ·have ES:Hid _:=sift_r (lt:=ltf cf) (hi:=hi) (root:=root) (first:=first) (d:=dk) h2 (decide_eq_true hc0)
     go_wp2_with fail
     go_still_tail 19,(by kernel_rfl)
     change wpList _ _ _ _ _ wr.drew
     go_wp2_with ((with_reducible refine HC.mono ?_);rintro e w' ⟨rfl,H2⟩)
     clear HC c1 c2 e1 p1 b1 w1 e2 p2 b2 w2 w10 hd
     replace ES:=ES.out
     clear H1
     have e5:((first:Int)+(root:Int):Int).toNat=first+root:=by omega
     have p5:(0:Int)≤(first:Int)+(root:Int):=by omega
     have b5:((first:Int)+(root:Int):Int)<(n:Int):=by omega
     have w5:IntKind.i64.wrap ((first:Int)+(root:Int):Int)=(first:Int)+(root:Int):=by rw[IntKind.wrap_i64];omega
     have e6:((first:Int)+(2*(root:Int)+1+1):Int).toNat=first+(2*root+2):=by omega
     have p6:(0:Int)≤(first:Int)+(2*(root:Int)+1+1):=by omega
     have b6:((first:Int)+(2*(root:Int)+1+1):Int)<(n:Int):=by omega
     have w6:IntKind.i64.wrap ((first:Int)+(2*(root:Int)+1+1):Int)=(first:Int)+(2*(root:Int)+1+1):=by rw[IntKind.wrap_i64];omega
     have w7:IntKind.i64.wrap (2*(root:Int)+1+1:Int)=2*(root:Int)+1+1:=by rw[IntKind.wrap_i64];omega
     have c1:=S.pcell H2.out (first+root) (by omega)
     have c2:=S.pcell H2.out (first+(2*root+2)) (by omega)
     have HC:=S.pcmp H2.out (first+root) (first+(2*root+2)) (by omega) (by omega)
     clear H2
     by_cases hc:cf dk[first+root]! dk[first+(2*root+2)]!<0
     ·have hlv:ltf cf dk[first+root]! dk[first+(2*root+2)]! = true:=decide_eq_true hc
      rw[if_pos hlv] at ES
      have E2:Hid (siftDown (ltf cf) hi first (2*root+2) (swp dk (first+root) (first+(2*root+2)))=siftDown (ltf cf) hi first lo d):=by show _=_; rw[← E1.out,ES]
      clear ES E1 hlv
      have hdc:decide (cf dk[first+root]! dk[first+(2*root+2)]!<0)=true:=decide_eq_true hc
      go_wp2_with fail
      go_still_tail 13,(by kernel_rfl)
      change wpList _ _ _ _ _ (World.drew _)
      go_wp2_with ((with_reducible refine HC.mono ?_);rintro e w' ⟨rfl,H3⟩)
      clear HC c1 c2
      have c1:=S.pcell H3.out (first+root) (by omega)
      have c2:=S.pcell H3.out (first+(2*root+2)) (by omega)
      have f1:=S.pfree H3.out (first+root) (by omega)
      have f2:=S.pfree H3.out (first+(2*root+2)) (by omega)
      obtain⟨u,c3⟩:=S.pcell2 H3.out (first+root) (first+(2*root+2)) (by omega) (by omega) (.int .i64 (dk[first+(2*root+2)]!:Nat))
      have H4:Hid _:=S.pswap H3.out (first+root) (first+(2*root+2)) (by omega) (by omega)
      clear H3
      go_wp2_with fail
      go_region
      clear c1 c2 f1 f2 c3
      go_wp2_with fail
      go_roundg (hi - (2*root+2))
      case measure=>omega
      case rel=>exact⟨2*root+2,swp dk (first+root) (first+(2*root+2)),by first | rfl | (congr 1; omega),by omega,by omega,H4,E2⟩
     ·have hlv:ltf cf dk[first+root]! dk[first+(2*root+2)]! = false:=decide_eq_false hc
      rw[if_neg (by rw[hlv];simp)] at ES
      have E2:Hid (dk=siftDown (ltf cf) hi first lo d):=by show _=_; rw[← E1.out,ES]
      clear ES E1 hlv
      have hdc:decide (cf dk[first+root]! dk[first+(2*root+2)]!<0)=false:=decide_eq_false hc
      go_wp2_with fail
      go_still_tail 13,(by kernel_rfl)
      change wpList _ _ _ _ _ (World.drew _)
      go_wp2_with ((with_reducible refine HC.mono ?_);rintro e w' ⟨rfl,H3⟩)
      clear HC c1 c2
      refine bodyPost_ret (results_none rfl _ _ _) rfl ?_
      exact⟨rfl,by rw[← E2.out];exact H3⟩
    ·have ES:Hid _:=sift_l (lt:=ltf cf) (first:=first) (root:=root) (hi:=hi) (d:=dk) (by omega) (fun _=>decide_eq_false hc0)
     go_wp2_with fail
     go_still_tail 19,(by kernel_rfl)
     change wpList _ _ _ _ _ wr.drew
     go_wp2_with ((with_reducible refine HC.mono ?_);rintro e w' ⟨rfl,H2⟩)
     clear HC c1 c2 e1 p1 b1 w1 e2 p2 b2 w2 w10 hd
     replace ES:=ES.out
     clear H1
     have e5:((first:Int)+(root:Int):Int).toNat=first+root:=by omega
     have p5:(0:Int)≤(first:Int)+(root:Int):=by omega
     have b5:((first:Int)+(root:Int):Int)<(n:Int):=by omega
     have w5:IntKind.i64.wrap ((first:Int)+(root:Int):Int)=(first:Int)+(root:Int):=by rw[IntKind.wrap_i64];omega
     have e6:((first:Int)+(2*(root:Int)+1):Int).toNat=first+(2*root+1):=by omega
     have p6:(0:Int)≤(first:Int)+(2*(root:Int)+1):=by omega
     have b6:((first:Int)+(2*(root:Int)+1):Int)<(n:Int):=by omega
     have w6:IntKind.i64.wrap ((first:Int)+(2*(root:Int)+1):Int)=(first:Int)+(2*(root:Int)+1):=by rw[IntKind.wrap_i64];omega
     have w7:IntKind.i64.wrap (2*(root:Int)+1:Int)=2*(root:Int)+1:=by rw[IntKind.wrap_i64];omega
     have c1:=S.pcell H2.out (first+root) (by omega)
     have c2:=S.pcell H2.out (first+(2*root+1)) (by omega)
     have HC:=S.pcmp H2.out (first+root) (first+(2*root+1)) (by omega) (by omega)
     clear H2
     by_cases hc:cf dk[first+root]! dk[first+(2*root+1)]!<0
     ·have hlv:ltf cf dk[first+root]! dk[first+(2*root+1)]! = true:=decide_eq_true hc
      rw[if_pos hlv] at ES
      have E2:Hid (siftDown (ltf cf) hi first (2*root+1) (swp dk (first+root) (first+(2*root+1)))=siftDown (ltf cf) hi first lo d):=by show _=_; rw[← E1.out,ES]
      clear ES E1 hlv
      have hdc:decide (cf dk[first+root]! dk[first+(2*root+1)]!<0)=true:=decide_eq_true hc
      go_wp2_with fail
      go_still_tail 13,(by kernel_rfl)
      change wpList _ _ _ _ _ (World.drew _)
      go_wp2_with ((with_reducible refine HC.mono ?_);rintro e w' ⟨rfl,H3⟩)
      clear HC c1 c2
      have c1:=S.pcell H3.out (first+root) (by omega)
      have c2:=S.pcell H3.out (first+(2*root+1)) (by omega)
      have f1:=S.pfree H3.out (first+root) (by omega)
      have f2:=S.pfree H3.out (first+(2*root+1)) (by omega)
      obtain⟨u,c3⟩:=S.pcell2 H3.out (first+root) (first+(2*root+1)) (by omega) (by omega) (.int .i64 (dk[first+(2*root+1)]!:Nat))
      have H4:Hid _:=S.pswap H3.out (first+root) (first+(2*root+1)) (by omega) (by omega)
      clear H3
      go_wp2_with fail
      go_region
      clear c1 c2 f1 f2 c3
      go_wp2_with fail
      go_roundg (hi - (2*root+1))
      case measure=>omega
      case rel=>exact⟨2*root+1,swp dk (first+root) (first+(2*root+1)),by first | rfl | (congr 1; omega),by omega,by omega,H4,E2⟩
     ·have hlv:ltf cf dk[first+root]! dk[first+(2*root+1)]! = false:=decide_eq_false hc
      rw[if_neg (by rw[hlv];simp)] at ES
      have E2:Hid (dk=siftDown (ltf cf) hi first lo d):=by show _=_; rw[← E1.out,ES]
      clear ES E1 hlv
      have hdc:decide (cf dk[first+root]! dk[first+(2*root+1)]!<0)=false:=decide_eq_false hc
      go_wp2_with fail
      go_still_tail 13,(by kernel_rfl)
      change wpList _ _ _ _ _ (World.drew _)
      go_wp2_with ((with_reducible refine HC.mono ?_);rintro e w' ⟨rfl,H3⟩)
      clear HC c1 c2
      refine bodyPost_ret (results_none rfl _ _ _) rfl ?_
      exact⟨rfl,by rw[← E2.out];exact H3⟩
   ·have hd:decide (2*(root:Int)+1+1<(hi:Int))=false:=by simp; omega
    have ES:Hid _:=sift_l (lt:=ltf cf) (first:=first) (root:=root) (hi:=hi) (d:=dk) (by omega) (fun h=>absurd h h2)
    have H2:Hid _:=S.pdrew H1.out
    go_wp2_with fail
    go_region
    clear w10 hd
    generalize wr.drew=wz at H2 ⊢
    replace ES:=ES.out
    clear H1
    have e5:((first:Int)+(root:Int):Int).toNat=first+root:=by omega
    have p5:(0:Int)≤(first:Int)+(root:Int):=by omega
    have b5:((first:Int)+(root:Int):Int)<(n:Int):=by omega
    have w5:IntKind.i64.wrap ((first:Int)+(root:Int):Int)=(first:Int)+(root:Int):=by rw[IntKind.wrap_i64];omega
    have e6:((first:Int)+(2*(root:Int)+1):Int).toNat=first+(2*root+1):=by omega
    have p6:(0:Int)≤(first:Int)+(2*(root:Int)+1):=by omega
    have b6:((first:Int)+(2*(root:Int)+1):Int)<(n:Int):=by omega
    have w6:IntKind.i64.wrap ((first:Int)+(2*(root:Int)+1):Int)=(first:Int)+(2*(root:Int)+1):=by rw[IntKind.wrap_i64];omega
    have w7:IntKind.i64.wrap (2*(root:Int)+1:Int)=2*(root:Int)+1:=by rw[IntKind.wrap_i64];omega
    have c1:=S.pcell H2.out (first+root) (by omega)
    have c2:=S.pcell H2.out (first+(2*root+1)) (by omega)
    have HC:=S.pcmp H2.out (first+root) (first+(2*root+1)) (by omega) (by omega)
    clear H2
    by_cases hc:cf dk[first+root]! dk[first+(2*root+1)]!<0
    ·have hlv:ltf cf dk[first+root]! dk[first+(2*root+1)]! = true:=decide_eq_true hc
     rw[if_pos hlv] at ES
     have E2:Hid (siftDown (ltf cf) hi first (2*root+1) (swp dk (first+root) (first+(2*root+1)))=siftDown (ltf cf) hi first lo d):=by show _=_; rw[← E1.out,ES]
     clear ES E1 hlv
     have hdc:decide (cf dk[first+root]! dk[first+(2*root+1)]!<0)=true:=decide_eq_true hc
     go_wp2_with fail
     go_still_tail 13,(by kernel_rfl)
     change wpList _ _ _ _ _ (World.drew _)
     go_wp2_with ((with_reducible refine HC.mono ?_);rintro e w' ⟨rfl,H3⟩)
     clear HC c1 c2
     have c1:=S.pcell H3.out (first+root) (by omega)
     have c2:=S.pcell H3.out (first+(2*root+1)) (by omega)
     have f1:=S.pfree H3.out (first+root) (by omega)
     have f2:=S.pfree H3.out (first+(2*root+1)) (by omega)
     obtain⟨u,c3⟩:=S.pcell2 H3.out (first+root) (first+(2*root+1)) (by omega) (by omega) (.int .i64 (dk[first+(2*root+1)]!:Nat))
     have H4:Hid _:=S.pswap H3.out (first+root) (first+(2*root+1)) (by omega) (by omega)
     clear H3
     go_wp2_with fail
     go_region
     clear c1 c2 f1 f2 c3
     go_wp2_with fail
     go_roundg (hi - (2*root+1))
     case measure=>omega
     case rel=>exact⟨2*root+1,swp dk (first+root) (first+(2*root+1)),by first | rfl | (congr 1; omega),by omega,by omega,H4,E2⟩
    ·have hlv:ltf cf dk[first+root]! dk[first+(2*root+1)]! = false:=decide_eq_false hc
     rw[if_neg (by rw[hlv];simp)] at ES
     have E2:Hid (dk=siftDown (ltf cf) hi first lo d):=by show _=_; rw[← E1.out,ES]
     clear ES E1 hlv
     have hdc:decide (cf dk[first+root]! dk[first+(2*root+1)]!<0)=false:=decide_eq_false hc
     go_wp2_with fail
     go_still_tail 13,(by kernel_rfl)
     change wpList _ _ _ _ _ (World.drew _)
     go_wp2_with ((with_reducible refine HC.mono ?_);rintro e w' ⟨rfl,H3⟩)
     clear HC c1 c2
     refine bodyPost_ret (results_none rfl _ _ _) rfl ?_
     exact⟨rfl,by rw[← E2.out];exact H3⟩
end
end Sr
