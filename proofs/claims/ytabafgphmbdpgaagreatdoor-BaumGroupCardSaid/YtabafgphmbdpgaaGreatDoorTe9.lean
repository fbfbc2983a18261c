/- Texts of this claim, joined: SortG. -/
import Derived.Test.YtabafgphmbdpgaaGreatDoorTe5
import Derived.Test.YtabafgphmbdpgaaGreatDoorTe8
set_option maxHeartbeats 8000000
set_option maxRecDepth 100000
namespace Sr
open Go Go.Proofs Go.RowKit Go.Sort
section
variable {g:FuncId} {fst cb:Array Value} {cf:Nat→Nat→Int} {blk off n:Nat} {Γ:Type} {K:Γ→Array Nat→World→Prop} {Out:Γ→Nat→Prop}
theorem siftDown_post (S:SRow Tryz.prog g fst cb cf blk off n Γ K Out)(eg:∀ args w,(callFunc g args).run Tryz.prog w=.ok (.enter g args) w) 
 (w w1:World) (cap lo hi first:Nat) (hb:first+hi≤n) (hlo:lo≤n) (hn:n≤1000000000) (γ:Γ) (d:Array Nat) (h:SPost K Out γ w d w1) :
 Calls Tryz.prog 161 #[.slice (some ⟨blk,off,none⟩) n cap,.int .i64 lo,.int .i64 hi,.int .i64 first,.func (.func g) fst cb] w1 fun e w' =>
  e=.returned (.tuple #[])∧Hid (SPost K Out γ w (siftDown (ltf cf) hi first lo d) w'):=by
 obtain⟨γ1,h1,h2,h3⟩:=h
 exact (siftDown_calls S eg w1 cap lo hi first hb hlo hn γ1 d h1).mono fun _ _ ⟨he,hp⟩=>⟨he,SPost.and h2 h3 hp.out⟩
theorem heapSort_calls (S:SRow Tryz.prog g fst cb cf blk off n Γ K Out)(eg:∀ args w,(callFunc g args).run Tryz.prog w=.ok (.enter g args) w) 
 (w:World) (cap a b:Nat) (hab:a≤b) (hb:b≤n) (hn:n≤1000000000) (γ:Γ) (d:Array Nat) (hK:K γ d w) :
 Calls Tryz.prog 147 #[.slice (some ⟨blk,off,none⟩) n cap,.int .i64 a,.int .i64 b,.func (.func g) fst cb] w fun e w' =>
  e=.returned (.tuple #[])∧Hid (SPost K Out γ w (heapSort (ltf cf) d a b) w'):=by
 have H0:Hid (SPost K Out γ w d w):=SPost.refl hK
 clear hK
 obtain⟨l,hl1,hl2⟩:∃ l,b≤a+l∧a+l≤b:=⟨b - a,by omega,by omega⟩
 have HL:Hid (b - a=l):=show b - a=l by omega
 obtain⟨m,hm1,hm2,hm3⟩:∃ m:Nat,Hid (m=(l - 1) / 2+1)∧2*m≤l+1+(if l=0 then 1 else 0)∧((l:Int) - 1).tdiv 2=(m:Int) - 1:=by
  refine⟨(l - 1) / 2+1,rfl,?_,?_⟩
  ·split <;>omega
  ·cases l with
   | zero=>rfl
   | succ l=>rw[show (((l+1:Nat):Int) - 1)=(l:Int) by omega,Int.tdiv_eq_ediv_of_nonneg (by omega)];omega
 have hm4:m≤l+1:=by by_cases h:l=0 <;>simp[h] at hm2 <;>omega
 clear hm2
 go_enter Tryz.func147,Tryz.ntmps147
 go_wp2_with fail
 rw[show ((b:Int) - (a:Int))=(l:Int) from by omega,hm3]
 clear hm3
 have HE:Hid (∀ d2,heapBuild (ltf cf) l a m d=d2→∀ d3,heapPop (ltf cf) a l d2=d3→heapSort (ltf cf) d a b=d3):=fun d2 h2 d3 h3=>by
  unfold heapSort; rw[HL.out,← hm1.out,h2,h3]
 clear HL hm1
 go_loopg [11] (m+1) (fun g1 vi wr=>∃ (x:Int) (k:Nat) (dk:Array Nat),vi=.int .i64 x∧x+1≤k∧k≤x+1∧k≤m∧k+1≤g1∧Hid (SPost K Out γ w dk wr)∧Hid (heapBuild (ltf cf) l a m d=heapBuild (ltf cf) l a k dk))
 case atStart=>exact⟨_,m,d,rfl,by omega,by omega,by omega,by omega,H0,rfl⟩
 case round =>
  clear H0
  obtain⟨x,k,dk,rfl,hx1,hx2,hkm,hg1,H1,EL⟩:=hrel
  cases k with
  | zero =>
    have hxz:¬ 0≤x:=by omega
    have E2:Hid _:=HE.out _ EL.out
    clear EL HE
    go_wp2_with fail
    go_loopg [12] (l+1) (fun g1 vi wr=>∃ (x:Int) (k:Nat) (dj:Array Nat),vi=.int .i64 x∧x+1≤k∧k≤x+1∧k≤l∧k+1≤g1∧Hid (SPost K Out γ w dj wr)∧Hid (heapSort (ltf cf) d a b=heapPop (ltf cf) a k dj))
    case atStart=>exact⟨_,l,dk,rfl,by omega,by omega,by omega,by omega,H1,E2.out _ rfl⟩
    case round =>
     clear H1 E2 hxz hx1 hx2
     obtain⟨x,k,dj,rfl,hx1,hx2,hkl,hg1,H1,EL⟩:=hrel
     cases k with
     | zero =>
       have hxz:¬ 0≤x:=by omega
       have E2:Hid (heapSort (ltf cf) d a b=dj):=EL.out
       clear EL
       go_wp2_with fail
       go_end0
       rw[E2.out]
       exact⟨rfl,H1⟩
     | succ q =>
       obtain rfl:x=(q:Int):=by omega
       have E2:Hid (heapSort (ltf cf) d a b=heapPop (ltf cf) a q (siftDown (ltf cf) q a 0 (swp dj a (a+q)))):=EL.out
       clear EL
       have e1:((a:Int):Int).toNat=a:=by omega
       have p1:(0:Int)≤(a:Int):=by omega
       have b1:((a:Int):Int)<(n:Int):=by omega
       have w1:IntKind.i64.wrap ((a:Int):Int)=(a:Int):=by rw[IntKind.wrap_i64];omega
       have e2:((a:Int)+(q:Int):Int).toNat=a+q:=by omega
       have p2:(0:Int)≤(a:Int)+(q:Int):=by omega
       have b2:((a:Int)+(q:Int):Int)<(n:Int):=by omega
       have w2:IntKind.i64.wrap ((a:Int)+(q:Int):Int)=(a:Int)+(q:Int):=by rw[IntKind.wrap_i64];omega
       go_upto_region 10 with fail
       have c1:=S.pcell H1.out (a) (by omega)
       have c2:=S.pcell H1.out (a+q) (by omega)
       have f1:=S.pfree H1.out (a) (by omega)
       have f2:=S.pfree H1.out (a+q) (by omega)
       obtain⟨u,c3⟩:=S.pcell2 H1.out (a) (a+q) (by omega) (by omega) (.int .i64 (dj[a+q]!:Nat))
       have H2:Hid _:=S.pswap H1.out (a) (a+q) (by omega) (by omega)
       clear H1
       go_wp2_with fail
       go_region
       clear c1 c2 f1 f2 c3
       clear e1 p1 b1 w1 e2 p2 b2 w2
       have HC:=siftDown_post S eg w _ cap 0 q a (by omega) (by omega) hn γ _ H2.out
       clear H2
       go_wp2_with fail
       refine HC.mono ?_
       rintro e w' ⟨rfl,H3⟩
       clear HC
       go_wp2_with fail
       go_roundg (q+1)
       case measure=>omega
       case rel=>exact⟨_,q,_,rfl,by omega,by omega,by omega,by omega,H3,E2⟩
  | succ q =>
    obtain rfl:x=(q:Int):=by omega
    have E2:Hid (heapBuild (ltf cf) l a m d=heapBuild (ltf cf) l a q (siftDown (ltf cf) l a q dk)):=EL.out
    clear EL
    have HC:=siftDown_post S eg w _ cap q l a (by omega) (by omega) hn γ _ H1.out
    clear H1
    go_wp2_with fail
    refine HC.mono ?_
    rintro e w' ⟨rfl,H3⟩
    clear HC
    go_wp2_with fail
    go_roundg (q+1)
    case measure=>omega
    case rel=>exact⟨_,q,_,rfl,by omega,by omega,by omega,by omega,H3,E2⟩
end
end Sr
