/- Texts of this claim, joined: ShelfB, SortI, SortJ, SortW, Cnt, CMap, SumP, SumG. -/
import Derived.Test.YtabafgphmbdpgaaGreatDoorTe1
import Derived.Test.YtabafgphmbdpgaaGreatDoorTe3
import Derived.Test.YtabafgphmbdpgaaGreatDoorTe5
import Derived.Test.YtabafgphmbdpgaaGreatDoorTe10
import Derived.Shelf.Small.Bits
import Derived.Shelf.SlSortCmp.Xorshift
import Derived.Ground.SlsfProg
import Derived.Shelf.SlGeneric
import Derived.Test.YtabafgphmbdpgaaGreatDoorProg
set_option maxHeartbeats 8000000
set_option maxRecDepth 100000
namespace Go.Proofs
open Go.Shelf
def Tryz.lays125_ren:Go.Shelf.Ren:=⟨fun | 125=>133 | 128=>154 | 129=>155 | n=>n,fun | 46=>173 | 3=>3 | 51=>208 | 53=>109 | 4=>4 | 5=>5 | 9=>9 | n=>n,fun | n=>n⟩
theorem Tryz.lays125:Go.Proofs.Lays.n125 Tryz.prog Tryz.lays125_ren:={
 mixed:=by kernel_rfl
 f125:=Tryz.func133.trans (congrArg some (by kernel_rfl))
 f128:=Tryz.func154.trans (congrArg some (by kernel_rfl))
 f129:=Tryz.func155.trans (congrArg some (by kernel_rfl))
 t3:=Tryz.underlying3
 a3:=Tryz.isAgg3
 z3:=Tryz.sizeOf3
 v3:=Tryz.zeroValue3
 t4:=Tryz.underlying4
 a4:=Tryz.isAgg4
 z4:=Tryz.sizeOf4
 v4:=Tryz.zeroValue4
 t5:=Tryz.underlying5
 a5:=Tryz.isAgg5
 z5:=Tryz.sizeOf5
 v5:=Tryz.zeroValue5
 t9:=Tryz.underlying9
 a9:=Tryz.isAgg9
 z9:=Tryz.sizeOf9
 v9:=Tryz.zeroValue9
 t46:=Tryz.underlying173
 a46:=Tryz.isAgg173
 z46:=Tryz.sizeOf173
 v46:=Tryz.zeroValue173
 t51:=Tryz.underlying208
 a51:=Tryz.isAgg208
 z51:=Tryz.sizeOf208
 v51:=Tryz.zeroValue208
 t53:=Tryz.underlying109
 a53:=Tryz.isAgg109
 z53:=Tryz.sizeOf109
 v53:=Tryz.zeroValue109 }
theorem Tryz.bits_Len (x:Int)(w:World)(h0:0≤x)(h1:x≤18446744073709551615):
 Calls Tryz.prog 133 #[.int .u64 x] w fun e w'=>e=.returned (.int .i64 (Lib.bitLen x.toNat))∧w'=w:=Any.bits_Len Tryz.lays125 x w h0 h1
def Tryz.xs48_ren:Go.Shelf.Ren:=⟨fun | 48=>163 | n=>n,fun | 76=>225 | 55=>109 | 0=>0 | 66=>212 | 39=>173 | n=>n,fun | n=>n⟩
theorem Tryz.xs48:Go.Proofs.SlLaysF0.n48 Tryz.prog Tryz.xs48_ren:={
 mixed:=by kernel_rfl
 f48:=Tryz.func163.trans (congrArg some (by kernel_rfl))
 t0:=Tryz.underlying0
 a0:=Tryz.isAgg0
 z0:=Tryz.sizeOf0
 v0:=Tryz.zeroValue0
 t39:=Tryz.underlying173
 a39:=Tryz.isAgg173
 z39:=Tryz.sizeOf173
 v39:=Tryz.zeroValue173
 t55:=Tryz.underlying109
 a55:=Tryz.isAgg109
 z55:=Tryz.sizeOf109
 v55:=Tryz.zeroValue109
 t66:=Tryz.underlying212
 a66:=Tryz.isAgg212
 z66:=Tryz.sizeOf212
 v66:=Tryz.zeroValue212
 t76:=Tryz.underlying225
 a76:=Tryz.isAgg225
 z76:=Tryz.sizeOf225
 v76:=Tryz.zeroValue225 }
def Tryz.xs47_ren:Go.Shelf.Ren:=⟨fun | 47=>162 | 15=>133 | 28=>154 | 29=>155 | n=>n,fun | 3=>3 | 39=>173 | 53=>208 | 55=>109 | 4=>4 | 5=>5 | 9=>9 | n=>n,fun | n=>n⟩
theorem Tryz.xs47:Go.Proofs.SlLaysF0.n47 Tryz.prog Tryz.xs47_ren:={
 mixed:=by kernel_rfl
 f15:=Tryz.func133.trans (congrArg some (by kernel_rfl))
 f28:=Tryz.func154.trans (congrArg some (by kernel_rfl))
 f29:=Tryz.func155.trans (congrArg some (by kernel_rfl))
 f47:=Tryz.func162.trans (congrArg some (by kernel_rfl))
 t3:=Tryz.underlying3
 a3:=Tryz.isAgg3
 z3:=Tryz.sizeOf3
 v3:=Tryz.zeroValue3
 t4:=Tryz.underlying4
 a4:=Tryz.isAgg4
 z4:=Tryz.sizeOf4
 v4:=Tryz.zeroValue4
 t5:=Tryz.underlying5
 a5:=Tryz.isAgg5
 z5:=Tryz.sizeOf5
 v5:=Tryz.zeroValue5
 t9:=Tryz.underlying9
 a9:=Tryz.isAgg9
 z9:=Tryz.sizeOf9
 v9:=Tryz.zeroValue9
 t39:=Tryz.underlying173
 a39:=Tryz.isAgg173
 z39:=Tryz.sizeOf173
 v39:=Tryz.zeroValue173
 t53:=Tryz.underlying208
 a53:=Tryz.isAgg208
 z53:=Tryz.sizeOf208
 v53:=Tryz.zeroValue208
 t55:=Tryz.underlying109
 a55:=Tryz.isAgg109
 z55:=Tryz.sizeOf109
 v55:=Tryz.zeroValue109 }
end Go.Proofs
namespace Sr
open Go Go.Proofs Go.RowKit Go.Sort
section
variable {g:FuncId} {fst cb:Array Value} {cf:Nat→Nat→Int} {blk off n:Nat} {Γ:Type} {K:Γ→Array Nat→World→Prop} {Out:Γ→Nat→Prop}
theorem next_calls (c X:Nat)(hX:X<18446744073709551616)(w:World)(hc:w.cell? ⟨c,0,none⟩=some (.int .u64 X))(hf:w.frozen? ⟨c,0,none⟩=false):
 Calls Tryz.prog 163 #[.pointer (some ⟨c,0,none⟩)] w fun e w'=>∃ Y:Nat,Y<18446744073709551616∧e=.returned (.int .u64 Y)∧w'=(w.setCell ⟨c,0,none⟩ (.int .u64 Y)).drewN 3 :=
 (AnyF.xorshift_Next (P:=Tryz.prog) Tryz.xs48 c 0 X hX w hc hf).mono fun _ _ ⟨he,hw⟩=>⟨xorNextN X,xorNextN_lt X hX,he,hw⟩
theorem npot_calls (m:Nat)(hm:m<4611686018427387904)(w:World):
 Calls Tryz.prog 162 #[.int .i64 m] w fun e w'=>e=.returned (.int .u64 ((1 <<< bitsLen m:Nat):Int))∧w'=w:=AnyF.nextPowerOfTwo (P:=Tryz.prog) Tryz.xs47 m hm w
def BPost {Γ:Type}(K:Γ→Array Nat→World→Prop)(Out:Γ→Nat→Prop)(γ:Γ)(w:World)(d:Array Nat)(c X:Nat)(w':World): Prop :=
 ∃ γ',K γ' d w'∧w.heap.size≤w'.heap.size∧(∀ b,Out γ b→b<w.heap.size→Out γ' b∧w'.heap[b]? = w.heap[b]?)∧Out γ' c∧w.heap.size≤c∧c<w'.heap.size ∧
  w'.cell? ⟨c,0,none⟩=some (.int .u64 X)∧w'.frozen? ⟨c,0,none⟩=false
variable {w w':World} {d:Array Nat} {c X:Nat}
theorem BPost.spost {γ:Γ}(h:BPost K Out γ w d c X w'): SPost K Out γ w d w':=by
 obtain⟨γ',h1,h2,h3,_⟩:=h; exact⟨γ',h1,h2,h3⟩
theorem xD (S:SRow Tryz.prog g fst cb cf blk off n Γ K Out){γ:Γ}(h:BPost K Out γ w d c X w'): BPost K Out γ w d c X w'.drew:=by
 obtain⟨γ',h1,h2,h3,h4,h5,h6,h7,h8⟩:=h
 exact⟨γ',S.drew h1,h2,h3,h4,h5,h6,h7,h8⟩
theorem bpost_next (S:SRow Tryz.prog g fst cb cf blk off n Γ K Out){γ:Γ}(h:BPost K Out γ w d c X w')(Y:Nat):
 BPost K Out γ w d c Y ((w'.setCell ⟨c,0,none⟩ (.int .u64 Y)).drewN 3):=by
 have h':BPost K Out γ w d c Y (w'.setCell ⟨c,0,none⟩ (.int .u64 Y)):=by
  obtain⟨γ',h1,h2,h3,h4,h5,h6,h7,h8⟩:=h
  refine⟨γ',S.store h1 c h4 _,by simpa using h2,fun b hb hl=>⟨(h3 b hb hl).1,?_⟩,h4,h5,by simpa using h6,?_,?_⟩
  ·rw[jS _ _ _ _ (show b≠c by omega)];exact (h3 b hb hl).2
  ·rw[World.cell?_setCell_same _ _ _ h7]
  ·rw[World.frozen?_setCell];exact h8
 exact xD S (xD S (xD S h'))
theorem bpost_swap (S:SRow Tryz.prog g fst cb cf blk off n Γ K Out){γ:Γ}(h:BPost K Out γ w d c X w')(i j:Nat)(hi:i<n)(hj:j<n):
 BPost K Out γ w (swp d i j) c X (((w'.setCell ⟨blk,off+i,none⟩ (.int .i64 (d[j]!:Nat))).setCell ⟨blk,off+j,none⟩ (.int .i64 (d[i]!:Nat))).drew):=by
 refine xD S ?_
 obtain⟨γ',h1,h2,h3,h4,h5,h6,h7,h8⟩:=h
 have hne:=S.out h4
 refine⟨γ',S.swap h1 i j hi hj,by simpa using h2,fun b hb hl=>⟨(h3 b hb hl).1,?_⟩,h4,h5,by simpa using h6,?_,?_⟩
 ·have hne:=S.out (h3 b hb hl).1
  rw[jS _ _ _ _ hne,jS _ _ _ _ hne];exact (h3 b hb hl).2
 ·rw[World.cell?_setCell_other _ _ _ _ (by intro e'; simp only[Addr.mk.injEq] at e'; omega),World.cell?_setCell_other _ _ _ _ (by intro e'; simp only[Addr.mk.injEq] at e'; omega)];exact h7
 ·rw[World.frozen?_setCell,World.frozen?_setCell];exact h8
theorem npot_bounds (l:Nat)(h:1≤l): l<1 <<< bitsLen l∧1 <<< bitsLen l≤2*l:=by
 rw[Nat.one_shiftLeft]
 unfold bitsLen
 rw[if_neg (by omega),Nat.pow_succ]
 have h1:=Nat.log2_self_le (n:=l) (by omega)
 have h2:=Nat.lt_log2_self (n:=l)
 rw[Nat.pow_succ] at h2
 omega
theorem breakPatterns_calls (S:SRow Tryz.prog g fst cb cf blk off n Γ K Out) 
 (w:World) (cap a b:Nat) (f:Value) (hab:a+12<b) (hb:b≤n) (hn:n≤1000000000) (γ:Γ) (d:Array Nat) (hK:K γ d w) :
 Calls Tryz.prog 148 #[.slice (some ⟨blk,off,none⟩) n cap,.int .i64 a,.int .i64 b,f] w fun e w'=>e=.returned (.tuple #[])∧∃ d',Hid (PermIn a b d d')∧Hid (SPost K Out γ w d' w'):=by
 obtain⟨l,hl1,hl2⟩:∃ l,b≤a+l∧a+l≤b:=⟨b - a,by omega,by omega⟩
 obtain⟨i0,hi1,hi2⟩:∃ i0,a+l / 4*2≤i0+1∧i0+1≤a+l / 4*2:=⟨a+l / 4*2 - 1,by omega,by omega⟩
 have ez:(b:Int) - (a:Int)=(l:Int):=by omega
 have hNP:=npot_calls l (by omega)
 obtain⟨hM1,hM2⟩:=npot_bounds l (by omega)
 generalize 1 <<< bitsLen l=M at hNP hM1 hM2
 have hsz:=S.size hK
 have HS:Hid (d.size=n):=hsz
 obtain⟨c0,hc0⟩:∃ c0,c0=w.heap.size:=⟨_,rfl⟩
 have H0:Hid (BPost K Out γ w d c0 l (w.alloc (.cells #[.int .u64 l] 212))):=by
  obtain⟨h1,h2⟩:=S.alloc hK (.cells #[.int .u64 l] 212)
  subst hc0
  exact⟨γ,h1,by simp,fun b hb hl=>⟨hb,RowKit.Below.heap_alloc _ _ _ hl⟩,h2,jR _,by simp,by simp,by simp⟩
 clear hK hsz
 go_enter Tryz.func148,Tryz.ntmps148
 go_wp2_with fail
 refine (hNP _).mono ?_
 rintro e w' ⟨rfl,rfl⟩
 clear hNP
 go_wp2_with fail
 rw[show ((a:Int)+(l:Int) / 4*2 - 1)=(i0:Int) from by omega,← hc0]
 generalize (w.alloc (Obj.cells #[Value.int IntKind.u64 ↑l] 212))=w1 at H0 ⊢
 clear hc0
 go_loopg [11] 3 (fun g1 vi wr=>∃ (i:Nat) (dk:Array Nat) (X:Nat),vi=.int .i64 i∧i0≤i∧i≤i0+3∧i0+3 - i≤g1∧X<18446744073709551616∧Hid (BPost K Out γ w dk c0 X wr)∧Hid (PermIn a b d dk))
 case atStart=>exact⟨i0,d,l,rfl,jR _,by omega,by omega,by omega,H0,permIn_refl _ _ _⟩
 case round =>
  clear H0
  obtain⟨i,dk,X,rfl,hii,hii3,hg1,hX,H1,P1⟩:=hrel
  by_cases h3:i<i0+3
  ·have h3z:(i:Int)≤(a:Int)+(l:Int) / 4*2+1:=by omega
   have HC:Calls Tryz.prog 163 #[.pointer (some ⟨c0,0,none⟩)] wr fun e w'=>∃ Y:Nat,Y<18446744073709551616∧e=.returned (.int .u64 Y)∧Hid (BPost K Out γ w dk c0 Y w'):=by
    obtain⟨_,_,_,_,_,_,_,hc,hf⟩:=H1.out
    refine (next_calls c0 X hX wr hc hf).mono ?_
    rintro e w' ⟨Y,hY,he,rfl⟩
    exact⟨Y,hY,he,bpost_next S H1.out Y⟩
   clear H1 hX
   go_wp2_with fail
   refine HC.mono ?_
   rintro e w' ⟨Y,hY,rfl,H1⟩
   clear HC
   obtain⟨O,hO⟩:∃ O,O=Y &&& (M - 1):=⟨_,rfl⟩
   have hO1:O≤M - 1:=by rw[hO];exact Nat.and_le_right
   have eAnd:bits .and .u64 (Y:Int) ((M:Int) - 1)=(O:Int):=by
    rw[show ((M:Int) - 1)=((M - 1:Nat):Int) by omega,bits_and_u64_nat _ _ hY (by omega),hO]
   clear hO
   have eWr:IntKind.i64.wrap (O:Int)=(O:Int):=by rw[IntKind.wrap_i64];omega
   go_upto_if 45 with fail
   go_cut [12] from 28 to 66 (fun v wq=>∃ O2:Nat,v=.int .i64 O2∧O2<l∧wq=w')
   case first =>
    by_cases hOl:O<l
    ·have hOlz:(O:Int)<(l:Int):=by omega
     go_wp2_with fail
     go_meet
     case rel=>exact⟨O,rfl,hOl,rfl⟩
    ·have hOlz:(l:Int)≤(O:Int):=by omega
     go_wp2_with fail
     go_meet
     case rel=>exact⟨O - l,by congr 1; omega,by omega,rfl⟩
   case rest =>
    obtain⟨O2,rfl,hO2,rfl⟩:=hcut
    clear eAnd eWr hO1
    have e1:((i:Int):Int).toNat=i:=by omega
    have p1:(0:Int)≤(i:Int):=by omega
    have b1:((i:Int):Int)<(n:Int):=by omega
    have w1:IntKind.i64.wrap ((i:Int):Int)=(i:Int):=by rw[IntKind.wrap_i64];omega
    have e2:((a:Int)+(O2:Int):Int).toNat=a+O2:=by omega
    have p2:(0:Int)≤(a:Int)+(O2:Int):=by omega
    have b2:((a:Int)+(O2:Int):Int)<(n:Int):=by omega
    have w2:IntKind.i64.wrap ((a:Int)+(O2:Int):Int)=(a:Int)+(O2:Int):=by rw[IntKind.wrap_i64];omega
    have c1:=S.pcell H1.out.spost i (by omega)
    have c2:=S.pcell H1.out.spost (a+O2) (by omega)
    have f1:=S.pfree H1.out.spost i (by omega)
    have f2:=S.pfree H1.out.spost (a+O2) (by omega)
    obtain⟨u,c3⟩:=S.pcell2 H1.out.spost i (a+O2) (by omega) (by omega) (.int .i64 (dk[a+O2]!:Nat))
    have H2:Hid _:=bpost_swap S H1.out i (a+O2) (by omega) (by omega)
    have P2:Hid (PermIn a b d (swp dk i (a+O2))):=permIn_trans _ _ _ _ _ P1.out (swp_permIn dk a b i (a+O2) (by omega) (by omega) (by omega) (by omega) (by have h1:=P1.out.1; have h2:=HS.out; omega))
    clear H1 P1
    go_wp2_with fail
    go_region
    clear c1 c2 f1 f2 c3
    go_wp2_with fail
    go_roundg (i0+3 - (i+1))
    case measure=>omega
    case rel=>exact⟨i+1,_,Y,by go_num,by omega,by omega,jR _,hY,H2,P2⟩
  ·have h3z:(a:Int)+(l:Int) / 4*2+1<(i:Int):=by omega
   go_wp2_with fail
   go_end0
   exact⟨rfl,dk,P1,H1.out.spost⟩
end
section
variable {g:FuncId} {fst cb:Array Value} {cf:Nat→Nat→Int} {blk off n:Nat} {Γ:Type} {K:Γ→Array Nat→World→Prop} {Out:Γ→Nat→Prop}
theorem bitLen_small (m:Nat)(h:m≤1000000000): Lib.bitLen m≤62:=Lib.bitLen_le m 62 (by omega) (by omega)
theorem sortFunc_calls (S:SRow Tryz.prog g fst cb cf blk off n Γ K Out)(eg:∀ args w,(callFunc g args).run Tryz.prog w=.ok (.enter g args) w)(hO:SWO (ltf cf))(hn:n≤1000000000) 
 (w:World) (cap:Nat) (γ:Γ) (d:Array Nat) (hK:K γ d w) :
 Calls Tryz.prog 96 #[.slice (some ⟨blk,off,none⟩) n cap,.func (.func g) fst cb] w fun e w' =>
  e=.returned (.tuple #[])∧Hid (PdqPost K Out (ltf cf) 0 n d γ w w'):=by
 have hB:BreakCalls K Out blk off n:=fun w cap a b f h1 h2 h3 γ d hK=>breakPatterns_calls S w cap a b f h1 h2 h3 γ d hK
 have hl:Calls Tryz.prog 133 #[.int .u64 (n:Int)] w fun e w'=>e=.returned (.int .i64 (Lib.bitLen n:Nat))∧w'=w:=by
  have h:=Tryz.bits_Len (n:Int) w (by omega) (by omega)
  rwa [Int.toNat_natCast] at h
 have hb:=bitLen_small n hn
 generalize Lib.bitLen n=lim at hl hb
 have HP:=pdq_calls S eg hB hO hn n w cap 0 n lim γ d (by omega) (by omega) (jR _) (by omega) (Or.inl rfl) hK
 clear hK hB
 rw[show ((0:Nat):Int)=0 from rfl] at HP
 go_enter Tryz.func96,Tryz.ntmps96
 go_wp2_with fail
 refine hl.mono ?_
 rintro e w' ⟨rfl,rfl⟩
 clear hl
 go_wp2_with fail
 refine HP.mono ?_
 rintro e w2 ⟨rfl,H⟩
 clear HP
 go_wp2_with fail
 go_end0
 exact⟨rfl,H⟩
theorem insertion_none (p:Option Addr)(c:Nat)(f:Value)(w:World): Calls Tryz.prog 146 #[.slice p 0 c,.int .i64 0,.int .i64 0,f] w fun e w'=>e=.returned (.tuple #[])∧w'=w:=by
 go_enter Tryz.func146,Tryz.ntmps146
 go_wp2_with fail
 go_loopg [8] 1 (fun g1 vi wr=>vi=.int .i64 1∧wr=w)
 case atStart=>exact⟨rfl,rfl⟩
 case round =>
  obtain⟨rfl,rfl⟩:=hrel
  go_wp2_with fail
  go_end0
  exact⟨rfl,rfl⟩
theorem pdq_none (p:Option Addr)(c:Nat)(lim:Int)(f:Value)(w:World): Calls Tryz.prog 132 #[.slice p 0 c,.int .i64 0,.int .i64 0,.int .i64 lim,f] w fun e w'=>e=.returned (.tuple #[])∧w'=w:=by
 have hI:=fun w=>insertion_none p c f w
 go_enter Tryz.func132,Tryz.ntmps132
 go_wp2_with fail
 refine wp_loop_rounds 1 ?_
 rw[rounds_succ]
 go_wp2_with fail
 refine (hI _).mono ?_
 rintro e w' ⟨rfl,rfl⟩
 go_wp2_with fail
 refine bodyPost_ret (results_none rfl _ _ _) rfl ?_
 exact⟨rfl,rfl⟩
theorem sortFunc_none (p:Option Addr)(c:Nat)(f:Value)(w:World): Calls Tryz.prog 96 #[.slice p 0 c,f] w fun e w'=>e=.returned (.tuple #[])∧w'=w:=by
 have hl:=fun w=>Tryz.bits_Len 0 w (by omega) (by omega)
 have hP:=fun lim w=>pdq_none p c lim f w
 go_enter Tryz.func96,Tryz.ntmps96
 go_wp2_with fail
 refine (hl _).mono ?_
 rintro e w' ⟨rfl,rfl⟩
 clear hl
 go_wp2_with fail
 refine (hP _ _).mono ?_
 rintro e w2 ⟨rfl,rfl⟩
 clear hP
 go_wp2_with fail
 go_end0
 exact⟨rfl,rfl⟩
end
end Sr
namespace Sr
open Go Go.Proofs Go.RowKit Go.Maps Go.WideMaps Go.Sort
section
variable {w:World} {d:Array Nat}
section
variable {C:List Nat} {W0:World} {p:Nat} {F:List Nat} {D:WD} {vs:List Int} {gk:List Nat} {m ge n cap:Nat}
def cfW (vs:List Int)(i j:Nat): Int:=isg (zb vs i - zb vs j)
structure KW (C:List Nat)(W0:World)(p:Nat)(F:List Nat)(D:WD)(vs:List Int)(gk:List Nat)(m ge n cap:Nat)(_:Unit)(d:Array Nat)(w:World): Prop where
 wo:WO C w p F D vs gk m
 size:d.size=n
 row:w.ownsRow 0 3 1 (.slice (some ⟨ge,0,none⟩) n cap) n (d.toList.map fun (i:Nat)=>.int .i64 (i:Nat))
 out:ge∉F
 ok:∀ i,i<n→∃ x,vs[d[i]!]? = some x
 fr:Fr (ge::F) W0 w
def OW (W0:World)(F:List Nat)(ge:Nat)(_:Unit)(c:Nat): Prop:=c∉F∧c≠ge∧W0.heap.size≤c
theorem row_block3 {xs:List Value}(h:w.ownsRow 0 3 1 (.slice (some ⟨ge,0,none⟩) n cap) n xs): ∃ cur,w.heap[ge]? = some (.cells cur 3 (0,0))∧n≤cap∧cap≤maxLen∧cur.size=cap*1∧cur.toList.take (n*1)=xs∧xs.length=n*1:=by
 obtain⟨h1,⟨h2,_⟩ | ⟨g',cap',cur,hv,_,h4,h5,h6,h7,h8⟩⟩:=h
 ·cases h2
 ·cases hv; exact⟨cur,h4,h5,h6,h7,h8,h1⟩
theorem bang_get {i:Nat}(h:i<d.size): d.toList[i]? = some d[i]!:=by
 rw[Array.getElem?_toList,Array.getElem?_eq_getElem h,getElem!_pos d i h]
theorem KW.cell {d:Array Nat}{w:World}(h:KW C W0 p F D vs gk m ge n cap () d w)(i:Nat)(hi:i<n): w.cell? ⟨ge,i,none⟩=some (.int .i64 (d[i]!:Nat)):=by
 obtain⟨cur,h4,h5,h6,h7,h8,h1⟩:=row_block3 h.row
 have e:(d.toList.map fun (i:Nat)=>Value.int .i64 (i:Nat))[i]? = some (.int .i64 (d[i]!:Nat)):=by
  rw[List.getElem?_map,bang_get (by rw[h.size];exact hi)];rfl
 rw[jB h4,← Array.getElem?_toList,← e,← h8,List.getElem?_take_of_lt (by omega)]
theorem setI {W:World}{l:List Nat}(i t:Nat)(h:W.ownsRow 0 3 1 (.slice (some ⟨ge,0,none⟩) n cap) n (l.map fun (i:Nat)=>.int .i64 (i:Nat))):
 (W.setCell ⟨ge,i,none⟩ (.int .i64 (t:Nat))).ownsRow 0 3 1 (.slice (some ⟨ge,0,none⟩) n cap) n ((l.set i t).map fun (i:Nat)=>.int .i64 (i:Nat)):=by
 obtain⟨cur,h4,h5,h6,h7,h8,h1⟩:=row_block3 h
 have k1:=heap_setCell_same W ge i cur 3 (.int .i64 (t:Nat)) h4
 refine⟨by simpa using h1,.inr ⟨ge,cap,_,rfl,Nat.zero_le _,k1,h5,h6,by simp[h7],?_⟩⟩
 rw[List.map_set,Array.toList_setIfInBounds,List.take_set,h8]
theorem KW.swap (h:KW C W0 p F D vs gk m ge n cap () d w)(i j:Nat)(hi:i<n)(hj:j<n):
 KW C W0 p F D vs gk m ge n cap () (swp d i j) ((w.setCell ⟨ge,i,none⟩ (.int .i64 (d[j]!:Nat))).setCell ⟨ge,j,none⟩ (.int .i64 (d[i]!:Nat))):=by
 have hs:=h.size
 refine⟨(h.wo.setCell h.out _).setCell h.out _,by simp[swp,hs],?_,h.out,?_,?_⟩
 ·have:=setI j d[i]! (setI i d[j]! h.row)
  have e:(swp d i j).toList=(d.toList.set i d[j]!).set j d[i]!:=by simp[swp]
  rw[e];exact this
 ·intro k hk
  have:∃ q,q<n∧(swp d i j)[k]! = d[q]!:=by
   by_cases e1:k=j
   ·exact⟨i,hi,by subst e1; simp[swp,hs,hk]⟩
   ·by_cases e2:k=i
    ·refine⟨j,hj,?_⟩
     subst e2
     simp[swp,hs,hk,Ne.symm e1]
    ·refine⟨k,hk,?_⟩
     simp[swp,hs,hk,Ne.symm e1,Ne.symm e2]
  obtain⟨q,hq,e⟩:=this
  rw[e];exact h.ok q hq
 ·have f:=h.fr
  refine⟨f.os,f.tape,f.output,by simpa using f.size,fun b hb hn=>?_⟩
  have hne:b≠ge:=by rintro rfl; simp at hn
  exact (jS _ _ _ _ hne).trans ((jS _ _ _ _ hne).trans (f.block b hb hn))
theorem Fr.more {F F':List Nat}{w':World}(h:Fr F w w')(hs:∀ b∈F,b∈F'): Fr F' w w':=⟨h.os,h.tape,h.output,h.size,fun b hb hn=>h.block b hb fun hm=>hn (hs b hm)⟩
theorem srowW (C:List Nat)(W0:World)(p:Nat)(F:List Nat)(D:WD)(vs:List Int)(gk:List Nat)(m ge n cap:Nat): SRow Tryz.prog 64 #[.pointer (some ⟨p,0,none⟩)] #[] (cfW vs) ge 0 n Unit (KW C W0 p F D vs gk m ge n cap) (OW W0 F ge) where
 size:=fun h=>h.size
 cell:=fun {γ d w} h i hi=>by rw[Nat.zero_add];exact KW.cell h i hi
 free:=fun {γ d w} h i hi=>by
  obtain⟨cur,h4,_⟩:=row_block3 h.row
  exact jF h4 _
 swap:=fun {γ d w} h i j hi hj=>by rw[Nat.zero_add,Nat.zero_add];exact KW.swap h i j hi hj
 drew:=fun {γ d w} h=>⟨h.wo.drew,h.size,h.row,h.out,h.ok,h.fr.drew⟩
 cmp:=fun {γ d w} h i j hi hj=>by
  obtain⟨x,hx⟩:=h.ok i hi
  obtain⟨y,hy⟩:=h.ok j hj
  have hc:=world_cmp (C:=C) (p:=p) (F:=F) (D:=D) (gk:=gk) (m:=m) hx hy w h.wo
  have e:isg (x - y)=cfW vs d[i]! d[j]!:=by unfold cfW; rw[zE hx,zE hy]
  rw[e] at hc
  refine hc.mono fun e w' ⟨h1,h2,h3⟩=>⟨h1,(),⟨h2.out,h.size,?_,h.out,h.ok,?_⟩,h3.out.size,fun c hc hl=>⟨hc,h3.out.block c hl hc.1⟩⟩
  ·refine jJ h.row fun b e=>?_
   have:b=ge:=by simpa [Value.ownBlock] using e.symm
   subst this
   exact h3.out.block b (jP h.row e) h.out
  ·exact Fr.pre h.fr (h3.out.more fun b hb=>List.mem_cons_of_mem _ hb)
 small:=fun x y=>by have:=isg_bd (zb vs x - zb vs y);unfold cfW; omega
 lt:=fun {γ d w} h=>jP h.row rfl
 alloc:=fun {γ d w} h o=>by
  refine⟨⟨h.wo.alloc o,h.size,World.ownsRow.alloc h.row o,h.out,h.ok,h.fr.alloc o⟩,?_,?_,h.fr.size⟩
  ·intro hm; have:=h.wo.blt _ hm; omega
  ·have:ge<w.heap.size:=jP h.row rfl
   omega
 store:=fun {γ d w} h c hc v=>by
  refine⟨h.wo.setCell hc.1 v,h.size,jJ h.row fun b e=>?_,h.out,h.ok,?_⟩
  ·have:b=ge:=by simpa [Value.ownBlock] using e.symm
   subst this
   exact jS _ _ _ _ hc.2.1.symm
  ·have f:=h.fr
   have h2:=hc.2.2
   exact⟨f.os,f.tape,f.output,by simpa using f.size,fun b hb hn=>(jS _ _ _ _ (show b≠c by omega)).trans (f.block b hb hn)⟩
 out:=fun {γ c} h=>h.2.1
theorem yZ (vs:List Int)(i j:Nat): ltf (cfW vs) i j=true↔zb vs i<zb vs j:=by
 unfold ltf cfW
 rw[decide_eq_true_iff]
 unfold isg
 by_cases h:zb vs i - zb vs j<0
 ·rw[if_pos h];omega
 ·rw[if_neg h];split <;>omega
theorem swoW (vs:List Int): SWO (ltf (cfW vs)) where
 irrefl:=fun x=>by
  cases h:ltf (cfW vs) x x with
  | false=>rfl
  | true=>have:=(yZ vs x x).1 h; omega
 trans:=fun x y z h1 h2=>(yZ vs x z).2 (by have:=(yZ vs x y).1 h1; have:=(yZ vs y z).1 h2; omega)
 ntrans:=fun x y z h1 h2=>by
  cases h:ltf (cfW vs) x z with
  | false=>rfl
  | true =>
    have h3:=(yZ vs x z).1 h
    have h4:¬ zb vs x<zb vs y:=fun h=>by rw[(yZ vs x y).2 h] at h1; cases h1
    have h5:¬ zb vs y<zb vs z:=fun h=>by rw[(yZ vs y z).2 h] at h2; cases h2
    omega
theorem eg64 (args:Array Value)(w:World): (callFunc 64 args).run Tryz.prog w=.ok (.enter 64 args) w:=by kernel_rfl
theorem sortW {W:World}(h:WO C W p F D vs gk m)(hd:d.size=n)(hr:W.ownsRow 0 3 1 (.slice (some ⟨ge,0,none⟩) n cap) n (d.toList.map fun (i:Nat)=>.int .i64 (i:Nat))) 
 (hF:ge∉F) (hok:∀ i,i<n→∃ x,vs[d[i]!]? = some x) (hn:n≤1000000000) :
 Calls Tryz.prog 96 #[.slice (some ⟨ge,0,none⟩) n cap,.func (.func 64) #[.pointer (some ⟨p,0,none⟩)] #[]] W fun e W'=>e=.returned (.tuple #[]) ∧
  ∃ d':Array Nat,Hid (d'.toList.Perm d.toList)∧Hid (d'.toList.Pairwise fun i j=>zb vs i≤zb vs j)∧Hid (WO C W' p F D vs gk m)∧Hid (W'.ownsRow 0 3 1 (.slice (some ⟨ge,0,none⟩) n cap) n (d'.toList.map fun (i:Nat)=>.int .i64 (i:Nat)))∧Hid (Fr (ge::F) W W'):=by
 refine (sortFunc_calls (srowW C W p F D vs gk m ge n cap) eg64 (swoW vs) hn W cap () d ⟨h,hd,hr,hF,hok,Fr.refl _ _⟩).mono ?_
 rintro e W' ⟨rfl,d',h1,h2,γ,h3,h4,h5⟩
 refine⟨rfl,d',?_,?_,h3.wo,h3.row,h3.fr⟩
 ·have:=h1.2.2
  have e1:d'.extract 0 n=d':=by rw[← h3.size];simp
  have e2:d.extract 0 n=d:=by rw[← hd];simp
  rw[e1,e2] at this
  exact this
 ·show List.Pairwise _ _
  rw[List.pairwise_iff_getElem]
  intro i j hi hj hij
  have hj':j<d'.size:=by simpa using hj
  have hi':i<d'.size:=by simpa using hi
  have:=h2 i j (Nat.zero_le _) hij (by rw[← h3.size];exact hj')
  have e1:d'.toList[i]=d'[i]!:=by rw[getElem!_pos d' i hi'];simp
  have e2:d'.toList[j]=d'[j]!:=by rw[getElem!_pos d' j hj'];simp
  rw[e1,e2]
  have:¬ zb vs d'[j]!<zb vs d'[i]!:=fun h=>by rw[(yZ vs _ _).2 h] at this; cases this
  omega
end
end
end Sr
namespace Sr
def cntP:List PT→Nat→Int
 | [],_=>0
 | t::l,i=>(if t.2=i then sg t.1 else 0)+cntP l i
theorem cntP_append (a b:List PT)(i:Nat): cntP (a++b) i=cntP a i+cntP b i:=by
 induction a with
 | nil=>simp[cntP]
 | cons t a ih=>simp only[List.cons_append,cntP,ih];omega
theorem cntP_snoc (a:List PT)(t:PT)(i:Nat): cntP (a++[t]) i=cntP a i+if t.2=i then sg t.1 else 0:=by
 rw[cntP_append];simp[cntP]
theorem sg_abs (s:Bool): (sg s).natAbs=1:=by cases s <;>rfl
theorem cntP_abs (l:List PT)(i:Nat): (cntP l i).natAbs≤l.length:=by
 induction l with
 | nil=>simp[cntP]
 | cons t l ih=>simp only[cntP,List.length_cons];have:=sg_abs t.1; split <;>omega
theorem cntP_none {l:List PT}{i:Nat}(h:∀ t∈l,t.2≠i): cntP l i=0:=by
 induction l with
 | nil=>rfl
 | cons t l ih=>simp only[cntP];rw[if_neg (h t (by simp)),ih (fun t ht=>h t (by simp[ht]))];rfl
def plcs (l:List PT): List Nat:=l.foldl (fun acc t=>if t.2∈acc then acc else acc++[t.2]) []
theorem zk (l:List PT)(t:PT): plcs (l++[t])=if t.2∈plcs l then plcs l else plcs l++[t.2]:=by unfold plcs; rw[List.foldl_append];rfl
theorem snocInd {α:Type}{P:List α→Prop}(h0:P [])(h1:∀ l t,P l→P (l++[t]))(l:List α): P l:=by
 have:∀ r:List α,P r.reverse:=fun r=>by
  induction r with
  | nil=>exact h0
  | cons a r ih=>rw[List.reverse_cons];exact h1 _ _ ih
 have h:=this l.reverse
 rwa [List.reverse_reverse] at h
theorem plcs_mem (l:List PT)(i:Nat): i∈plcs l↔∃ t∈l,t.2=i:=by
 refine snocInd (P:=fun l=>i∈plcs l↔∃ t∈l,t.2=i) (by simp[plcs]) (fun l t ih=>?_) l
 rw[zk]
 split
 ·rename_i h
  rw[ih]
  constructor
  ·rintro⟨u,hu,rfl⟩;exact⟨u,by simp[hu],rfl⟩
  ·rintro⟨u,hu,rfl⟩
   rcases List.mem_append.1 hu with hu | hu
   ·exact⟨u,hu,rfl⟩
   ·obtain rfl:u=t:=by simpa using hu
    exact ih.1 h
 ·rw[List.mem_append,ih]
  constructor
  ·rintro (⟨u,hu,rfl⟩ | hi)
   ·exact⟨u,by simp[hu],rfl⟩
   ·exact⟨t,by simp,by simpa using Eq.symm (by simpa using hi)⟩
  ·rintro⟨u,hu,rfl⟩
   rcases List.mem_append.1 hu with hu | hu
   ·exact .inl ⟨u,hu,rfl⟩
   ·obtain rfl:u=t:=by simpa using hu
    right; simp
theorem plcs_nodup (l:List PT): (plcs l).Nodup:=by
 refine snocInd (P:=fun l=>(plcs l).Nodup) (by simp[plcs]) (fun l t ih=>?_) l
 rw[zk]
 split
 ·exact ih
 ·rename_i h
  refine List.nodup_append.2 ⟨ih,by simp,fun a ha b hb=>?_⟩
  obtain rfl:b=t.2:=by simpa using hb
  rintro rfl; exact h ha
theorem plcs_len (l:List PT): (plcs l).length≤l.length:=by
 refine snocInd (P:=fun l=>(plcs l).length≤l.length) (by simp[plcs]) (fun l t ih=>?_) l
 rw[zk]
 split
 ·simp; omega
 ·simp; omega
def sumOver (f:Nat→Int): List Nat→Int
 | []=>0
 | i::r=>f i+sumOver f r
theorem sumOver_add (f g:Nat→Int)(l:List Nat): sumOver (fun i=>f i+g i) l=sumOver f l+sumOver g l:=by
 induction l with
 | nil=>rfl
 | cons i l ih=>simp only[sumOver,ih];omega
theorem sumOver_zero {f:Nat→Int}{l:List Nat}(h:∀ i∈l,f i=0): sumOver f l=0:=by
 induction l with
 | nil=>rfl
 | cons i l ih=>simp only[sumOver];rw[h i (by simp),ih (fun j hj=>h j (by simp[hj]))];rfl
theorem sumOver_one {S:List Nat}(hS:S.Nodup){k:Nat}(hk:k∈S)(v:Nat→Int): sumOver (fun i=>if k=i then v i else 0) S=v k:=by
 induction S with
 | nil=>simp at hk
 | cons i S ih =>
   obtain⟨h1,h2⟩:=List.nodup_cons.1 hS
   simp only[sumOver]
   by_cases e:k=i
   ·subst e
    rw[if_pos rfl,sumOver_zero (fun j hj=>if_neg (by rintro rfl; exact h1 hj))];omega
   ·rw[if_neg e,ih h2 (by simpa [e] using hk)];omega
theorem sumOver_congr {f g:Nat→Int}{l:List Nat}(h:∀ i∈l,f i=g i): sumOver f l=sumOver g l:=by
 induction l with
 | nil=>rfl
 | cons i l ih=>simp only[sumOver];rw[h i (by simp),ih (fun j hj=>h j (by simp[hj]))]
theorem sum_cnt (E:Nat→Nat): ∀ {l:List PT} {S:List Nat},S.Nodup→(∀ t∈l,t.2∈S)→sumOver (fun i=>cntP l i*2 ^ E i) S=lv (l.map fun t=>(t.1,E t.2))
 | [],S,_,_=>by rw[sumOver_zero (fun i _=>by simp[cntP])];rfl
 | t::l,S,hS,h=>by
   have h1:∀ i,cntP (t::l) i*2 ^ E i=(if t.2=i then sg t.1*2 ^ E i else 0)+cntP l i*2 ^ E i:=fun i=>by
    simp only[cntP];rw[Int.add_mul];congr 1; split <;>simp
   rw[sumOver_congr (fun i _=>h1 i),sumOver_add,sumOver_one hS (h t (by simp)) (fun i=>sg t.1*2 ^ E i),sum_cnt E hS (fun t ht=>h t (by simp[ht]))]
   simp only[List.map_cons,lv,tv]
   congr 1
   cases t.1 <;>simp[sg]
theorem restv_sum (cnt:Nat→Int)(E:Nat→Nat)(ds:List Nat): restv cnt (ds.map E)=sumOver (fun i=>cnt (E i)*2 ^ E i) ds:=by
 induction ds with
 | nil=>rfl
 | cons i ds ih=>simp only[List.map_cons,restv,sumOver,ih]
def absOver (f:Nat→Int): List Nat→Nat
 | []=>0
 | i::r=>(f i).natAbs+absOver f r
theorem absOver_le {f g:Nat→Int}{l:List Nat}(k:Nat)(h:∀ i∈l,(f i).natAbs≤(g i).natAbs+if k=i then 1 else 0)(hn:l.Nodup): absOver f l≤absOver g l+1:=by
 induction l with
 | nil=>simp[absOver]
 | cons i l ih =>
   obtain⟨h1,h2⟩:=List.nodup_cons.1 hn
   simp only[absOver]
   have hi:=h i (by simp)
   by_cases e:k=i
   ·subst e
    rw[if_pos rfl] at hi
    have:absOver f l≤absOver g l:=by
     clear ih
     have h':∀ j∈l,(f j).natAbs≤(g j).natAbs:=fun j hj=>by
      have:=h j (by simp[hj]);rw[if_neg (by rintro rfl; exact h1 hj)] at this; exact this
     clear h h1 h2 hn hi
     induction l with
     | nil=>exact jR _
     | cons j l ih=>simp only[absOver];have:=h' j (by simp);have:=ih (fun i hi=>h' i (by simp[hi]));omega
    omega
   ·rw[if_neg e] at hi
    have:=ih (fun j hj=>h j (by simp[hj])) h2
    omega
theorem abs_cnt:∀ (l:List PT) (S:List Nat),S.Nodup→absOver (cntP l) S≤l.length
 | [],S,_=>by
   have:∀ S:List Nat,absOver (cntP []) S=0:=fun S=>by induction S with | nil=>rfl | cons i S ih=>simp only[absOver,ih];rfl
   rw[this];exact Nat.zero_le _
 | t::l,S,hS=>by
   have:=absOver_le (f:=cntP (t::l)) (g:=cntP l) t.2 (fun i _=>by
    simp only[cntP];have:=sg_abs t.1; split <;>omega) hS
   have:=abs_cnt l S hS
   simp only[List.length_cons];omega
theorem mass_abs (cnt:Nat→Int)(E:Nat→Nat)(ds:List Nat): mass cnt (ds.map E)=absOver (fun i=>cnt (E i)) ds+ds.length:=by
 induction ds with
 | nil=>rfl
 | cons i ds ih=>simp only[List.map_cons,mass,absOver,List.length_cons,ih];omega
end Sr
namespace Sr
open Go Go.Proofs Go.RowKit Go.Maps Go.WideMaps Go.Sort
section
def CMap (w:World)(mc:Nat)(l:List PT): Prop:=∃ f,MapF Tryz.prog 3 w mc f∧∀ i:Nat,f (.int .i64 (i:Nat))=if i∈plcs l then some (.int .i64 (cntP l i)) else none
theorem CMap.kept {w w':World}{mc:Nat}{l:List PT}(h:CMap w mc l)(hb:w'.heap[mc]? = w.heap[mc]?): CMap w' mc l:=by
 obtain⟨f,h1,h2⟩:=h
 exact⟨f,h1.kept hb,h2⟩
theorem CMap.lt {w:World}{mc:Nat}{l:List PT}(h:CMap w mc l): mc<w.heap.size:=by
 obtain⟨f,h1,_⟩:=h
 exact h1.lt
theorem CMap.made (w:World): CMap (w.alloc (.map #[] 0)) w.heap.size []:=⟨_,MapF.made Tryz.prog 3 w,fun i=>by simp[plcs]⟩
variable {w:World} {mc i:Nat} {l:List PT}
theorem cnt_out (h:i∉plcs l): cntP l i=0:=cntP_none fun t ht e=>h ((plcs_mem l i).2 ⟨t,ht,e⟩)
theorem CMap.look2 (h:CMap w mc l)(hi:i<9223372036854775808){b:Bool}(hb:decide (i∈plcs l)=b)(w':World)(hw:w'.heap[mc]? = w.heap[mc]?):
 (Instr.lookup 122 (.map (some mc)) (.int .i64 (i:Nat)) true).run Tryz.prog w'=.ok (.tuple #[.int .i64 (cntP l i),.bool b]) w':=by
 obtain⟨f,h1,h2⟩:=h
 have:=(h1.kept hw).look true law3 Tryz.underlying122 (zero3 w') (keyInt (wfNat hi))
 rw[this]
 subst hb
 rw[h2]
 by_cases hm:i∈plcs l
 ·simp[hm]
 ·simp[hm,cnt_out hm]
theorem CMap.look1 (h:CMap w mc l)(hi:i<9223372036854775808)(w':World)(hw:w'.heap[mc]? = w.heap[mc]?):
 (Instr.lookup 122 (.map (some mc)) (.int .i64 (i:Nat)) false).run Tryz.prog w'=.ok (.int .i64 (cntP l i)) w':=by
 obtain⟨f,h1,h2⟩:=h
 have:=(h1.kept hw).look false law3 Tryz.underlying122 (zero3 w') (keyInt (wfNat hi))
 rw[this,h2]
 by_cases hm:i∈plcs l
 ·simp[hm]
 ·simp[hm,cnt_out hm]
theorem CMap.put (h:CMap w mc l)(t:PT)(hi:t.2<9223372036854775808){c:Int}(hc:c=cntP l t.2+sg t.1):
 ∃ w',(Instr.mapUpdate 122 (.map (some mc)) (.int .i64 (t.2:Nat)) (.int .i64 c)).run Tryz.prog w=.ok () w'∧CMap w' mc (l++[t])∧w.grownBy w' (some mc):=by
 obtain⟨f,h1,h2⟩:=h
 obtain⟨w',k1,k2,_,k4⟩:=h1.store law3 Tryz.underlying122 (v:=.int .i64 c) (keyInt (wfNat hi))
 refine⟨w',k1,⟨_,k2,fun i=>?_⟩,k4⟩
 unfold updF
 have hmem:i∈plcs (l++[t])↔i∈plcs l∨i=t.2:=by
  rw[zk];split
  ·rename_i h
   constructor
   ·exact .inl
   ·rintro (h | rfl);exact h; assumption
  ·simp
 by_cases e:i=t.2
 ·subst e
  rw[if_pos rfl,if_pos (hmem.2 (.inr rfl)),cntP_snoc,if_pos rfl,hc]
 ·have e':¬ (Value.int .i64 (i:Nat))=.int .i64 (t.2:Nat):=by
   intro h
   have:(i:Int)=t.2:=by simpa using h
   omega
  have e2:¬ t.2=i:=fun h=>e h.symm
  rw[if_neg e',h2,cntP_snoc,if_neg e2]
  by_cases hm:i∈plcs l
  ·rw[if_pos hm,if_pos (hmem.2 (.inl hm)),Int.add_zero]
  ·rw[if_neg hm,if_neg (fun h=>(hmem.1 h).elim hm e)]
section
variable {C:List Nat} {W:World} {p:Nat} {F:List Nat} {D:WD} {vs:List Int} {gk:List Nat} {m:Nat}
theorem sortAny (h:WO C W p F D vs gk m){v:Value}{ds:List Nat}(hr:IRow W v ds)(hF:∀ b,v.ownBlock=some b→b∉F)(hok:∀ i∈ds,∃ x,vs[i]? = some x)(hn:ds.length≤1000000000):
 Calls Tryz.prog 96 #[v,.func (.func 64) #[.pointer (some ⟨p,0,none⟩)] #[]] W fun e W'=>e=.returned (.tuple #[]) ∧
  ∃ ds':List Nat,Hid (ds'.Perm ds)∧Hid (ds'.Pairwise fun i j=>zb vs i≤zb vs j)∧Hid (WO C W' p F D vs gk m)∧Hid (IRow W' v ds')∧Hid (Fr (v.ownBlock.toList++F) W W'):=by
 have hr0:IRow W v ds:=hr
 obtain⟨h1,⟨rfl,h2⟩ | ⟨g,cap,cur,rfl,h3,h4,h5,h6,h7,h8⟩⟩:=hr
 ·have:ds=[]:=List.length_eq_zero_iff.1 h2
  subst this
  refine (sortFunc_none none 0 _ W).mono ?_
  rintro e w' ⟨rfl,rfl⟩
  exact⟨rfl,[],List.Perm.refl _,List.Pairwise.nil,h,hr0,Fr.refl _ _⟩
 ·have hr1:W.ownsRow 0 3 1 (.slice (some ⟨g,0,none⟩) ds.length cap) ds.length (ds.toArray.toList.map fun (i:Nat)=>.int .i64 (i:Nat)):=hr0
  refine (sortW h (d:=ds.toArray) (by simp) hr1 (hF g rfl) (fun i hi=>?_) hn).mono ?_
  ·have e:ds.toArray[i]! = ds[i]:=by rw[getElem!_pos ds.toArray i (by simpa using hi)];simp
   rw[e];exact hok _ (List.getElem_mem hi)
  ·rintro e w' ⟨rfl,d',k1,k2,k3,k4,k5⟩
   have hp:d'.toList.Perm ds:=by have:=k1.out; simpa using this
   refine⟨rfl,d'.toList,hp,k2,k3,?_,k5⟩
   show IRow _ _ _
   unfold IRow
   rw[hp.length_eq]
   exact k4.out
end
end
section
structure Gw (C:List Nat)(W W':World)(p:Nat)(F F':List Nat)(D':WD)(vs vs':List Int)(gk gk':List Nat)(m N:Nat): Prop where
 wo:WO C W' p F' D' vs' gk' m
 fr:Fr F W W'
 sub:∀ b∈F',b∈F∨W.heap.size≤b
 pre:vs <+: vs'
 new:∀ e∈gk',e∈gk∨e<N
theorem Gw.refl {C:List Nat}{W:World}{p:Nat}{F:List Nat}{D:WD}{vs:List Int}{gk:List Nat}{m:Nat}(N:Nat)(h:WO C W p F D vs gk m): Gw C W W p F F D vs vs gk gk m N :=
 ⟨h,Fr.refl _ _,fun _ hb=>.inl hb,List.prefix_refl _,fun _ he=>.inl he⟩
theorem Gw.trans {C:List Nat}{W W1 W2:World}{p:Nat}{F F1 F2:List Nat}{D1 D2:WD}{vs v1 v2:List Int}{gk g1 g2:List Nat}{m N N2:Nat}(h:Gw C W W1 p F F1 D1 vs v1 gk g1 m N)(k:Gw C W1 W2 p F1 F2 D2 v1 v2 g1 g2 m N2)(hN:N2≤N):
 Gw C W W2 p F F2 D2 vs v2 gk g2 m N where
 wo:=k.wo
 fr:=(FE.trans ⟨h.fr,h.sub⟩ ⟨k.fr,k.sub⟩).fr
 sub:=(FE.trans ⟨h.fr,h.sub⟩ ⟨k.fr,k.sub⟩).sub
 pre:=h.pre.trans k.pre
 new:=fun e he=>by
  rcases k.new e he with h1 | h1
  ·exact h.new e h1
  ·exact .inr (by omega)
theorem Gw.kept {C:List Nat}{W W1 W2:World}{p:Nat}{F F1:List Nat}{D1:WD}{vs v1:List Int}{gk g1:List Nat}{m N:Nat}(h:Gw C W W1 p F F1 D1 vs v1 gk g1 m N)(hw:WO C W2 p F1 D1 v1 g1 m)(hf:Fr F W W2): Gw C W W2 p F F1 D1 vs v1 gk g1 m N :=
 ⟨hw,hf,h.sub,h.pre,h.new⟩
def eAt (vs:List Int)(i:Nat): Nat:=(zb vs i).toNat
def cAt (vs:List Int)(l:List PT)(e:Nat): Int:=cntP l (vs.idxOf (e:Int))
def pl (vs:List Int)(out:List Tm): List PT:=out.map fun t=>(t.1,vs.idxOf (t.2:Int))
theorem pl_ext {vs vs':List Int}(hp:vs <+: vs'){out:List Tm}(h:∀ t∈out,(t.2:Int)∈vs): pl vs' out=pl vs out:=by
 unfold pl
 refine List.map_congr_left fun t ht=>?_
 rw[zV hp (h t ht)]
structure M2 (C:List Nat)(W:World)(p:Nat)(F:List Nat)(vs:List Int)(gk:List Nat)(m N:Nat)(l:List PT)(mc:Nat)(ux:Value)(ds:List Nat) 
 (ov:Value) (out:List Tm) (wr:World) (Fr':List Nat) (Dr:WD) (vr:List Int) (gr:List Nat):Prop where
 gw:Gw C W wr p F Fr' Dr vs vr gk gr m N
 cm:CMap wr mc l
 row:IRow wr ux ds
 outr:TRow wr ov (pl vr out)
 mcF:mc∉Fr'∧W.heap.size≤mc
 rowF:∀ b,ux.ownBlock=some b→b∉Fr'∧W.heap.size≤b
 outF:∀ b,ov.ownBlock=some b→b∉Fr'∧W.heap.size≤b
 mem:∀ t∈out,(t.2:Int)∈vr
structure G2 (vs:List Int)(P:List Nat)(l:List PT)(T:Int)(ds:List Nat)(k:Nat)(carry:Int)(a eN:Nat)(out:List Tm)(vr:List Int): Prop where
 eat:carry≠0→vr[a]? = some (eN:Int)
 inv:SumInv T (cAt vs l) ((ds.drop k).map (eAt vs)) carry eN out
 chain:carry≠0→∃ q∈P,∃ j,eN=q+j∧j+sumMeas (cAt vs l) ((ds.drop k).map (eAt vs)) carry eN≤4*l.length
 meas:sumMeas (cAt vs l) ((ds.drop k).map (eAt vs)) carry eN≤4*l.length
 kle:k≤ds.length
variable {w':World} {P:List Nat}
section
variable {C:List Nat} {W:World} {p:Nat} {F:List Nat} {vs:List Int} {gk:List Nat} {m N:Nat} {l:List PT} {mc:Nat} {ux:Value} {ds:List Nat} {ov:Value} {out:List Tm} {wr:World} {Fr':List Nat} {Dr:WD} {vr:List Int} {gr:List Nat}
theorem M2.below (h:M2 C W p F vs gk m N l mc ux ds ov out wr Fr' Dr vr gr){w':World}(hb:Below wr.heap.size wr w'): M2 C W p F vs gk m N l mc ux ds ov out w' Fr' Dr vr gr where
 gw:=h.gw.kept (h.gw.wo.below hb) (Fr.pre h.gw.fr (Fr.of_below hb))
 cm:=h.cm.kept (hb.block _ h.cm.lt)
 row:=jK h.row hb
 outr:=jK h.outr hb
 mcF:=h.mcF
 rowF:=h.rowF
 outF:=h.outF
 mem:=h.mem
theorem M2.next (h:M2 C W p F vs gk m N l mc ux ds ov out wr Fr' Dr vr gr){F2:List Nat}{D2:WD}{v2:List Int}{g2:List Nat}{N2:Nat}(k:Gw C wr w' p Fr' F2 D2 vr v2 gr g2 m N2)(hN:N2≤N):
 M2 C W p F vs gk m N l mc ux ds ov out w' F2 D2 v2 g2:=by
 have hnF:∀ b,b<wr.heap.size→b∉Fr'→b∉F2:=fun b hb hn hm=>by rcases k.sub b hm with h1 | h1; exact hn h1; omega
 exact {
  gw:=h.gw.trans k hN
  cm:=h.cm.kept (k.fr.block _ h.cm.lt h.mcF.1)
  row:=jJ h.row fun b e=>k.fr.block b (jP h.row e) (h.rowF b e).1
  outr:=by
   rw[pl_ext k.pre h.mem]
   exact jJ h.outr fun b e=>k.fr.block b (jP h.outr e) (h.outF b e).1
  mcF:=⟨hnF _ h.cm.lt h.mcF.1,h.mcF.2⟩
  rowF:=fun b e=>⟨hnF _ (jP h.row e) (h.rowF b e).1,(h.rowF b e).2⟩
  outF:=fun b e=>⟨hnF _ (jP h.outr e) (h.outF b e).1,(h.outF b e).2⟩
  mem:=fun t ht=>qN k.pre (h.mem t ht) }
theorem M2.app (h:M2 C W p F vs gk m N l mc ux ds ov out wr Fr' Dr vr gr){o':Value}{s:Bool}{a e:Nat}(ha:vr[a]? = some (e:Int))(hr:TRow w' o' (pl vr out++[(s,a)]))(hg:wr.grownBy w' ov.ownBlock) 
 (hat:o'.ownBlock=ov.ownBlock∨o'.ownBlock=some wr.heap.size):M2 C W p F vs gk m N l mc ux ds o' (out++[(s,e)]) w' Fr' Dr vr gr:=by
 have hk:∀ b∈Fr',w'.heap[b]? = wr.heap[b]?:=fun b hb=>hg.block b (h.gw.wo.blt b hb) fun e1=>(h.outF b e1.symm).1 hb
 exact {
  gw:=h.gw.kept (h.gw.wo.kept hk) ⟨hg.os.trans h.gw.fr.os,hg.tape.trans h.gw.fr.tape,hg.output.trans h.gw.fr.output,Nat.le_trans h.gw.fr.size hg.size,fun b hb hn =>
   (hg.block b (Nat.lt_of_lt_of_le hb h.gw.fr.size) (fun e1=>by have:=(h.outF b e1.symm).2; omega)).trans (h.gw.fr.block b hb hn)⟩
  cm:=h.cm.kept (hg.block _ h.cm.lt fun e1=>qD (jh h.outr e1.symm) h.cm.choose_spec.1 rfl)
  row:=jJ h.row fun b e1=>hg.block b (jP h.row e1) fun e2=>by
   obtain⟨c,hc⟩:=jO h.row e1
   obtain⟨c2,hc2⟩:=jO h.outr e2.symm
   exact jI hc hc2 (by decide) rfl
  outr:=by
   have e1:pl vr (out++[(s,e)])=pl vr out++[(s,a)]:=by unfold pl; rw[List.map_append];simp[h.gw.wo.wv.idx_get ha]
   rw[e1];exact hr
  mcF:=h.mcF
  rowF:=h.rowF
  outF:=fun b e1=>by
   rcases hat with h1 | h1
   ·exact h.outF b (h1▸e1)
   ·rw[h1] at e1; cases e1
    refine⟨fun hm=>?_,h.gw.fr.size⟩
    have:=h.gw.wo.blt _ hm; omega
  mem:=fun t ht=>by
   rcases List.mem_append.1 ht with ht | ht
   ·exact h.mem t ht
   ·obtain rfl:t=(s,e):=by simpa using ht
    exact jM ha }
end
structure Ds (vs:List Int)(P:List Nat)(N:Nat)(l:List PT)(ds:List Nat): Prop where
 perm:ds.Perm (plcs l)
 srt:ds.Pairwise fun i j=>zb vs i≤zb vs j
 ok:∀ i∈ds,vs[i]? = some ((eAt vs i:Nat):Int)∧eAt vs i∈P∧eAt vs i≤N
theorem Ds.nodup {vs:List Int}{N:Nat}{l:List PT}{ds:List Nat}(h:Ds vs P N l ds): ds.Nodup:=(h.perm.nodup_iff).2 (plcs_nodup l)
theorem Ds.len {vs:List Int}{N:Nat}{l:List PT}{ds:List Nat}(h:Ds vs P N l ds): ds.length≤l.length:=by rw[h.perm.length_eq];exact plcs_len l
theorem Ds.cnt {vs:List Int}{N:Nat}{l:List PT}{ds:List Nat}(h:Ds vs P N l ds)(hv:WV vs){i:Nat}(hi:i∈ds): cAt vs l (eAt vs i)=cntP l i:=by
 unfold cAt; rw[hv.idx_get (h.ok i hi).1]
theorem Ds.asc {vs:List Int}{N:Nat}{l:List PT}{ds:List Nat}(h:Ds vs P N l ds)(hv:WV vs): (ds.map (eAt vs)).Pairwise (·<·):=by
 rw[List.pairwise_map]
 refine (h.srt.and h.nodup).imp_of_mem ?_
 intro i j hi hj ⟨h1,h2⟩
 have e1:=(h.ok i hi).1
 have e2:=(h.ok j hj).1
 rw[zE e1,zE e2] at h1
 rcases Nat.lt_or_ge (eAt vs i) (eAt vs j) with h3 | h3
 ·exact h3
 ·exfalso
  have h4:eAt vs i=eAt vs j:=by omega
  rw[h4] at e1
  exact h2 ((hv.idx_get e1).symm.trans (hv.idx_get e2))
theorem Ds.sum {vs:List Int}{N:Nat}{l:List PT}{ds:List Nat}(h:Ds vs P N l ds)(hv:WV vs): restv (cAt vs l) (ds.map (eAt vs))=ptv vs l:=by
 rw[restv_sum,sumOver_congr (g:=fun i=>cntP l i*2 ^ eAt vs i) (fun i hi=>by rw[h.cnt hv hi]),sum_cnt (eAt vs) h.nodup (fun t ht=>h.perm.mem_iff.2 ((plcs_mem l _).2 ⟨t,ht,rfl⟩))]
 rfl
theorem absOver_congr {f g:Nat→Int}{l:List Nat}(h:∀ i∈l,f i=g i): absOver f l=absOver g l:=by
 induction l with
 | nil=>rfl
 | cons i l ih=>simp only[absOver];rw[h i (by simp),ih (fun j hj=>h j (by simp[hj]))]
theorem Ds.mass {vs:List Int}{N:Nat}{l:List PT}{ds:List Nat}(h:Ds vs P N l ds)(hv:WV vs)(e:Nat): sumMeas (cAt vs l) (ds.map (eAt vs)) 0 e≤4*l.length:=by
 unfold sumMeas
 have h1:=mass_abs (cAt vs l) (eAt vs) ds
 rw[absOver_congr (g:=cntP l) (fun i hi=>h.cnt hv hi)] at h1
 have h2:=abs_cnt l ds h.nodup
 have h3:=h.len
 simp
 omega
theorem M2.start {C:List Nat}{W:World}{p:Nat}{F:List Nat}{D:WD}{vs:List Int}{gk:List Nat}{m:Nat}(N:Nat){l:List PT}{mc:Nat}{ux:Value}{ds:List Nat}{wr:World} 
 (hw:WO C wr p F D vs gk m) (hf:Fr F W wr) (hc:CMap wr mc l) (hr:IRow wr ux ds) (hm:mc∉F∧W.heap.size≤mc) (hx:∀ b,ux.ownBlock=some b→b∉F∧W.heap.size≤b) :
 M2 C W p F vs gk m N l mc ux ds (.slice none 0 0) [] wr F D vs gk where
 gw:=⟨hw,hf,fun _ hb=>.inl hb,List.prefix_refl _,fun _ he=>.inl he⟩
 cm:=hc
 row:=hr
 outr:=⟨rfl,.inl ⟨rfl,rfl⟩⟩
 mcF:=hm
 rowF:=hx
 outF:=fun b hb=>by cases hb
 mem:=fun t ht=>by simp at ht
theorem G2.start {vs:List Int}{N:Nat}{l:List PT}{ds:List Nat}(hd:Ds vs P N l ds)(hv:WV vs)(a eN:Nat): G2 vs P l (ptv vs l) ds 0 0 a eN [] vs where
 eat:=fun h=>absurd rfl h
 inv:=⟨by simp[lv];exact hd.sum hv,List.Pairwise.nil,hd.asc hv,fun h=>absurd rfl h,fun t ht=>by simp at ht,fun t ht=>by simp at ht⟩
 chain:=fun h=>absurd rfl h
 meas:=hd.mass hv eN
 kle:=Nat.zero_le _
end
end Sr
namespace Sr
open Go Go.Proofs
section
variable {i:Nat}
section
variable {vs vr:List Int} {P:List Nat} {N:Nat} {l:List PT} {T:Int} {ds:List Nat} {k:Nat} {carry:Int} {a eN:Nat} {out:List Tm}
theorem zT {k:Nat}(h:ds[k]? = some i): (ds.drop k).map (eAt vs)=eAt vs i::(ds.drop (k+1)).map (eAt vs):=by
 obtain⟨h1,h2⟩:=jL h
 rw[List.drop_eq_getElem_cons h1,h2];rfl
theorem zl (h:ds.length≤k): (ds.drop k).map (eAt vs)=[]:=by rw[List.drop_eq_nil_of_le h];rfl
structure G3 (vs:List Int)(P:List Nat)(l:List PT)(ds:List Nat)(k:Nat)(carry:Int)(eN:Nat)(vr:List Int)(k' a' Q:Nat)(here:Int): Prop where
 at':vr[a']? = some (Q:Int)
 kle:k'≤ds.length
 q:Q=nextE ((ds.drop k).map (eAt vs)) carry eN
 hereE:here=hereOf (cAt vs l) ((ds.drop k).map (eAt vs)) carry eN
 rest:(ds.drop k').map (eAt vs)=restOf ((ds.drop k).map (eAt vs)) carry eN
 chain:∃ q∈P,∃ j,Q=q+j∧j+sumMeas (cAt vs l) ((ds.drop k).map (eAt vs)) carry eN≤4*l.length
 bd:here.natAbs≤2*l.length
 ne:(ds.drop k).map (eAt vs)≠[]∨carry≠0
theorem here_bd (G:G2 vs P l T ds k carry a eN out vr): (hereOf (cAt vs l) ((ds.drop k).map (eAt vs)) carry eN).natAbs≤2*l.length:=by
 have h1:=mass_tail (cAt vs l) ((ds.drop k).map (eAt vs)) carry eN
 have h2:=G.meas
 unfold sumMeas at h2
 omega
theorem carry_bd (G:G2 vs P l T ds k carry a eN out vr): carry.natAbs≤2*l.length:=by
 have h2:=G.meas
 unfold sumMeas at h2
 omega
theorem G2.stepA (G:G2 vs P l T ds k 0 a eN out vr)(hd:Ds vs P N l ds)(hv:WV vs)(hp:vs <+: vr)(hi:ds[k]? = some i): G3 vs P l ds k 0 eN vr (k+1) i (eAt vs i) (cntP l i):=by
 have hm:i∈ds:=jM hi
 have hq:nextE ((ds.drop k).map (eAt vs)) 0 eN=eAt vs i:=by rw[zT hi];simp[nextE]
 have hh:hereOf (cAt vs l) ((ds.drop k).map (eAt vs)) 0 eN=cntP l i:=by
  unfold hereOf; rw[hq,zT hi];simp[hd.cnt hv hm]
 refine⟨jW hp (hd.ok i hm).1,(jL hi).1,hq.symm,hh.symm,?_,⟨eAt vs i,(hd.ok i hm).2.1,0,rfl,by have:=G.meas; omega⟩,by rw[← hh];exact here_bd G,.inl (by rw[zT hi];simp)⟩
 unfold restOf; rw[hq,zT hi];simp
theorem head_iff (hd:Ds vs P N l ds)(hw:WV vr)(hp:vs <+: vr){b e:Nat}(hi:i∈ds)(hb:vr[b]? = some (e:Int)): i=b↔eAt vs i=e:=by
 have h1:=jW hp (hd.ok i hi).1
 constructor
 ·rintro rfl; rw[h1] at hb; have:=Option.some.inj hb; omega
 ·rintro rfl; exact (hw.idx_get h1).symm.trans (hw.idx_get hb)
theorem G2.stepB (G:G2 vs P l T ds k carry a eN out vr)(hd:Ds vs P N l ds)(hv:WV vs)(hw:WV vr)(hp:vs <+: vr)(hc:carry≠0)(hi:ds[k]? = some a): G3 vs P l ds k carry eN vr (k+1) a eN (carry+cntP l a):=by
 have hm:a∈ds:=jM hi
 have he:=(head_iff hd hw hp hm (G.eat hc)).1 rfl
 have hq:nextE ((ds.drop k).map (eAt vs)) carry eN=eN:=by simp[nextE,hc]
 have hh:hereOf (cAt vs l) ((ds.drop k).map (eAt vs)) carry eN=carry+cntP l a:=by
  unfold hereOf; rw[hq,zT hi,he];simp; rw[← he,hd.cnt hv hm]
 refine⟨G.eat hc,(jL hi).1,hq.symm,hh.symm,?_,G.chain hc,by rw[← hh];exact here_bd G,.inr hc⟩
 unfold restOf; rw[hq,zT hi,he];simp
theorem G2.stepC (G:G2 vs P l T ds k carry a eN out vr)(hd:Ds vs P N l ds)(hw:WV vr)(hp:vs <+: vr)(hc:carry≠0)(hi:∀ i,ds[k]? = some i→i≠a): G3 vs P l ds k carry eN vr k a eN carry:=by
 have hq:nextE ((ds.drop k).map (eAt vs)) carry eN=eN:=by simp[nextE,hc]
 have hne:((ds.drop k).map (eAt vs)).head?≠some eN:=by
  rcases Nat.lt_or_ge k ds.length with h | h
  ·have hk:ds[k]? = some ds[k]:=jG h
   rw[zT hk]
   intro e
   have e':eAt vs ds[k]=eN:=by simpa using e
   exact hi _ hk ((head_iff hd hw hp (List.getElem_mem h) (G.eat hc)).2 e')
  ·rw[zl h];simp
 have hh:hereOf (cAt vs l) ((ds.drop k).map (eAt vs)) carry eN=carry:=by
  unfold hereOf; rw[hq,if_neg hne];omega
 refine⟨G.eat hc,G.kle,hq.symm,hh.symm,?_,G.chain hc,by rw[← hh];exact here_bd G,.inr hc⟩
 unfold restOf; rw[hq,if_neg hne]
variable {k' a' Q:Nat} {here:Int}
theorem G3.zero (G:G2 vs P l T ds k carry a eN out vr)(h:G3 vs P l ds k carry eN vr k' a' Q here)(h0:here=0)(b:Nat): G2 vs P l T ds k' 0 b Q out vr:=by
 have hh:=h.hereE
 rw[h0] at hh
 refine⟨fun h=>absurd rfl h,?_,fun h=>absurd rfl h,?_,h.kle⟩
 ·rw[h.rest];exact G.inv.zero h.ne hh.symm Q
 ·rw[h.rest]
  have:=sumMeas_zero h.ne Q hh.symm
  have:=G.meas; omega
theorem G3.below (G:G2 vs P l T ds k carry a eN out vr)(h:G3 vs P l ds k carry eN vr k' a' Q here)(hd:Ds vs P N l ds)(hT:∀ e:Nat,2 ^ e<T.natAbs→e<N)(hc:k'<ds.length∨(here≠1∧here≠-1))(h0:here≠0): Q<N:=by
 obtain⟨b1,b2,b3,b4,b5⟩:=G.inv.at_next h.ne
 rw[← h.q] at b1 b3 b4
 rw[← h.rest] at b1 b3
 rw[← h.hereE] at b1
 rcases Nat.lt_or_ge k' ds.length with hk | hk
 ·have hk':ds[k']? = some ds[k']:=jG hk
  have:=b3 (eAt vs ds[k']) (by rw[zT hk'];simp)
  have:=(hd.ok _ (List.getElem_mem hk)).2.2
  omega
 ·rw[zl hk] at b1
  simp only[restv,Int.add_zero] at b1
  have hc':here≠1∧here≠-1:=by rcases hc with hc | hc; omega; exact hc
  have hnaf:Naf out.reverse:=by unfold Naf; rw[List.pairwise_reverse];exact G.inv.asc
  have hb:=yg out.reverse hnaf Q (fun t ht=>b4 t (List.mem_reverse.1 ht))
  rw[ys] at hb
  refine hT Q ?_
  have hp:=jk Q
  have h2:(2:Int) ^ Q<T.natAbs:=by
   rcases Int.lt_or_lt_of_ne h0 with hneg | hpos
   ·have:here*2 ^ Q≤(-2)*2 ^ Q:=Int.mul_le_mul_of_nonneg_right (by omega) (by omega)
    omega
   ·have:2*2 ^ Q≤here*2 ^ Q:=Int.mul_le_mul_of_nonneg_right (by omega) (by omega)
    omega
  exact_mod_cast h2
theorem above_of (hd:Ds vs P N l ds)(hv:WV vs)(hw:WV vr)(hp:vs <+: vr){b:Nat}(hb:vr[b]? = some ((Q+1:Nat):Int)):
 (ds[k']? = some b→cntP l b=aboveOf (cAt vs l) ((ds.drop k').map (eAt vs)) (Q+1))∧((∀ i,ds[k']? = some i→i≠b)→(0:Int)=aboveOf (cAt vs l) ((ds.drop k').map (eAt vs)) (Q+1)):=by
 constructor
 ·intro hi
  have hm:=jM hi
  have he:=(head_iff hd hw hp hm hb).1 rfl
  unfold aboveOf
  rw[zT hi,he,← hd.cnt hv hm,he];simp
 ·intro hi
  unfold aboveOf
  rw[if_neg]
  rcases Nat.lt_or_ge k' ds.length with h | h
  ·have hk:ds[k']? = some ds[k']:=jG h
   rw[zT hk]
   intro e
   have e':eAt vs ds[k']=Q+1:=by simpa using e
   exact hi _ hk ((head_iff hd hw hp (List.getElem_mem h) hb).2 e')
  ·rw[zl h];simp
theorem G3.down (G:G2 vs P l T ds k carry a eN out vr)(h:G3 vs P l ds k carry eN vr k' a' Q here)(h0:here≠0){v2:List Int}{up:Nat}(hup:(k'<ds.length∨(here≠1∧here≠-1))→v2[up]? = some (((Q+1:Nat)):Int)) 
 {above:Int} (hab:above=aboveOf (cAt vs l) ((ds.drop k').map (eAt vs)) (Q+1)) :
 (here % 2=0→G2 vs P l T ds k' (here / 2) up (Q+1) out v2) ∧
 (here % 2≠0→∀ left,left=leftOf here above→G2 vs P l T ds k' ((here - left) / 2) up (Q+1) (out++[(decide (left<0),Q)]) v2):=by
 have hmeas:=fun c hc=>sumMeas_down (cnt:=cAt vs l) (carry:=carry) (e:=eN) h.ne (c:=c) (by rw[← h.hereE];exact h0) hc
 rw[← h.hereE,← h.rest,← h.q] at hmeas
 have hM:=G.meas
 obtain⟨q,hq,j,hj,hjm⟩:=h.chain
 have hlast:¬ (k'<ds.length∨(here≠1∧here≠-1))→above=0∧(here=1∨here = -1):=fun hn=>by
  refine⟨?_,by omega⟩
  rw[hab,zl (by omega)];rfl
 constructor
 ·intro h2
  have hm:=hmeas (here / 2) (.inl ⟨h2,rfl⟩)
  refine⟨fun _=>hup ?_,?_,fun _=>⟨q,hq,j+1,by omega,by omega⟩,by omega,h.kle⟩
  ·by_cases hn:k'<ds.length∨(here≠1∧here≠-1)
   ·exact hn
   ·have:=(hlast hn).2; omega
  ·rw[h.rest,h.hereE,h.q]
   exact G.inv.even h.ne (by rw[← h.hereE];exact h2)
 ·intro h2 left hl
  have hm:=hmeas ((here - left) / 2) (.inr ⟨h2,by rw[hl,hab]⟩)
  refine⟨fun hc=>hup ?_,?_,fun _=>⟨q,hq,j+1,by omega,by omega⟩,by omega,h.kle⟩
  ·by_cases hn:k'<ds.length∨(here≠1∧here≠-1)
   ·exact hn
   ·exfalso
    obtain⟨e1,e2⟩:=hlast hn
    apply hc
    rw[hl,e1]
    rcases e2 with rfl | rfl <;>decide
  ·have:=G.inv.odd h.ne (left:=left) (by rw[← h.hereE];exact h2) (by rw[hl,hab,← h.hereE,← h.rest,← h.q])
   rw[← h.hereE,← h.rest,← h.q] at this
   exact this
end
end
end Sr
