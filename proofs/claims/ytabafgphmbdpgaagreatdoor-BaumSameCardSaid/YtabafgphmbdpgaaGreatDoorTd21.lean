/- Texts of this claim, joined: RPr, RAl, Bytes. -/
import Derived.Test.YtabafgphmbdpgaaGreatDoorTd1
import Derived.Test.YtabafgphmbdpgaaGreatDoorTd16
import Derived.Test.YtabafgphmbdpgaaGreatDoorTd20
set_option maxHeartbeats 8000000
set_option maxRecDepth 100000
namespace Sr
open Go Go.Proofs Go.RowKit Go.Maps Go.WideMaps
section
section
variable {ops:Array Oper} {rest:List Oper} {o:Oper} {a:Act} {Q:Exit→Act→World→Prop} {W:World}
theorem app_I2 (hgd:o.guard=none)(s x:Operand)(ho:o.op=.call { callee:=.builtin .append,args:=#[s,x],argTypes:=#[80,80] }) 
 (v:Value) (l:List Nat) (hs:a.eval s=v) (hown:IRow W v l) (B:Nat) (t:Nat) (hx:a.eval x=.slice (some ⟨B,0,none⟩) 1 1)
 (hB:W.heap[B]? = some (.cells #[.int .i64 (t:Nat)] 3 (0,0))) (n:Nat) (hn:l.length+1=n) (hb:n≤8000000000000) (H:Nat) (hH:W.heap.size=H)
 (h:∀ g cap w',IRow w' (.slice (some ⟨g,0,none⟩) n cap) (l++[t])→W.grownBy w' v.ownBlock→(v.ownBlock=some g∨g=H)→g<w'.heap.size→wpList Tryz.prog ops Q rest (a.put o.dst (.slice (some ⟨g,0,none⟩) n cap)) w') :
 wpList Tryz.prog ops Q (o::rest) a W:=by
 subst hn
 obtain⟨i,hi,hz0,hz1,hz2⟩:=info_parts info3
 refine wpList_append_lies W hgd s x 80 ho 0 3 i _ 1 8 un80 hi hz0 hz1 hz2 rfl (by decide) v l.length _ hs hown ⟨B,0,none⟩ 1 1 [.int .i64 (t:Nat)] hx rfl (fun j u hu=>World.news_of_block hB j u hu) (by simp; rfl) (by omega) (by simp only[maxLen];omega) (by omega) (Nat.zero_le _) H hH ?_
 intro g cap w' k1 k2 k3 k4
 refine h g cap w' ?_ k2 k3 k4
 unfold IRow
 rw[List.length_append,List.map_append];exact k1
end
variable {g n cap p:Nat} {l:List Nat} {C vs:List Int} {fv:Value} {fl:List Value}
theorem IRow.at {W:World}(h:IRow W (.slice (some ⟨g,0,none⟩) n cap) l){i j:Nat}(hi:l[i]? = some j): W.cell? ⟨g,i,none⟩=some (.int .i64 (j:Nat)):=row1_at' h (by rw[List.getElem?_map,hi];rfl)
theorem IRow.len {W:World}{a:Option Addr}(h:IRow W (.slice a n cap) l): n=l.length:=by
 obtain⟨_,⟨h2,h3⟩ | ⟨g',cap',cur,hv,_⟩⟩:=h
 ·cases h2; exact h3.symm
 ·cases hv; rfl
theorem IRow.set {W:World}{g n cap:Nat}{l:List Nat}(h:IRow W (.slice (some ⟨g,0,none⟩) n cap) l)(i j:Nat): IRow (W.setCell ⟨g,i,none⟩ (.int .i64 (j:Nat))) (.slice (some ⟨g,0,none⟩) n cap) (l.set i j):=by
 have hn:=h.len
 subst hn
 have:=set1 i (.int .i64 (j:Nat)) h
 unfold IRow
 rw[List.length_set,List.map_set];exact this
theorem IRow.free {W:World}(h:IRow W (.slice (some ⟨g,0,none⟩) n cap) l)(i:Nat): W.frozen? ⟨g,i,none⟩=false:=by
 have hn:=h.len
 subst hn
 exact yG h i
theorem PM.rw {w1 wr:World}{bu k:Nat}{u:List Bool}(h:PM w1 bu k u wr)(hw:RW C w1 p fv fl vs)(hn:bu∉rB p fv fl): RW C wr p fv fl vs :=
 hw.kept fun b hb=>h.fr.block b (hw.blt b hb) (by simp; rintro rfl; exact hn hb)
theorem RW.rowAt {W:World}(h:RW C W p fv fl vs)(hfv:fv=.slice (some ⟨g,0,none⟩) n cap){i:Nat}{y:Int}(hi:vs[i]? = some y):
 ∃ a c,W.cell? ⟨g,i,none⟩=some (.slice a (form y).length c)∧∀ k t,(form y)[k]? = some t→∃ b,a=some ⟨b,0,none⟩∧W.cell? ⟨b,k*2,none⟩=some (.bool t.1)∧W.cell? ⟨b,k*2+1,none⟩=some (.int .i64 (vs.idxOf (t.2:Int):Nat)):=by
 obtain⟨g',cap',he,hrow⟩:=h.formAt
 rw[hfv] at he; cases he
 obtain⟨v,_,cv,hr⟩:=hrow i y hi
 obtain⟨a,c,rfl,hs⟩:=hr.get
 have hl:(pf vs y).length=(form y).length:=by simp[pf]
 rw[hl] at cv
 refine⟨a,c,cv,fun k t ht=>?_⟩
 exact hs k (t.1,vs.idxOf (t.2:Int)) (by unfold pf; rw[List.getElem?_map,ht];rfl)
theorem rParts_calls {W:World}(H:RW C W p fv fl vs){X:Nat}{x:Int}(hX:vs[X]? = some x):
 Calls Tryz.prog 76 #[.pointer (some ⟨p,0,none⟩),.int .i64 (X:Nat)] W fun e W'=>∃ v',e=.returned v'∧Hid (IRow W' v' (((Sr.parts x).map fun (q:Nat)=>vs.idxOf (q:Int))++[X]))∧Hid (Below W.heap.size W W'):=by
 have hwv:=jH H.wv
 have hvl:=H.vlen
 have HX:=jH hX
 have hXl:X<vs.length:=(jL hX).1
 have hXw:IntKind.i64.wrap ((X:Int)+1)=(X:Int)+1:=by rw[IntKind.wrap_i64];omega
 have X0:(0:Int)≤(X:Int):=by omega
 have X1:(X:Int)<(X:Int)+1:=by omega
 have hmk1:∀ w,(Instr.makeSlice 172 (.int .i64 ((X:Int)+1)) (.int .i64 ((X:Int)+1))).run Tryz.prog w=.ok (.slice (some ⟨w.heap.size,0,none⟩) (X+1) (X+1)) (w.alloc (.cells (madeCells #[.bool false] (X+1)) 4)):=fun w =>
  run_make_row' (P:=Tryz.prog) 172 4 (.bool false) 1 un172 info4 rfl .i64 .i64 (X+1) (by omega) (by omega) w
 have hrowM:=made_row (W:=W) 4 (.bool false) (X+1) (by simp only[maxLen];omega)
 have cM:(W.alloc (.cells (madeCells #[.bool false] (X+1)) 4)).cell? ⟨W.heap.size,X,none⟩=some (.bool false):=row1_at hrowM (by simp)
 have fM:=yG hrowM X
 have hrow1:=made_set (W:=W) 4 (.bool false) (.bool true) (X+1) X (by simp only[maxLen];omega)
 obtain⟨w1,bu,hw1,hbu,S0,HW1,HBl,HNb⟩:∃ w1 bu,W.alloc (.cells ((madeCells #[.bool false] (X+1)).setIfInBounds X (.bool true)) 4)=w1∧W.heap.size=bu∧Hid (PM w1 bu X ((List.replicate (X+1) false).set X true) w1)∧Hid (RW C w1 p fv fl vs)∧Hid (Below W.heap.size W w1)∧Hid (bu∉rB p fv fl) :=
  ⟨_,_,rfl,rfl,⟨Fr.refl _ _,by unfold URow; rw[List.map_set,List.map_replicate];exact hrow1⟩,H.alloc _,(Below.refl _ _).alloc (jR _) _,fun h=>by have:=H.blt _ h; omega⟩
 have M0:=jH (RMk.start (vs:=vs) (x:=x) (X:=X))
 obtain⟨g,cap,hfv,-⟩:=H.formAt
 subst hfv
 rw[hbu] at cM fM
 clear hrowM hrow1 H hX
 go_enter Tryz.func76,Tryz.ntmps76
 go_wp2_with fail
 clear hmk1 cM fM
 go_loopg [6] (X+1) (fun g1 vi wr=>∃ (r:Nat) (u:List Bool),vi=.int .i64 ((r:Int) - 1)∧r≤X+1∧r≤g1∧Hid (PM w1 bu X u wr)∧Hid (RMk vs x X r u))
 case atStart=>exact⟨X+1,_,by go_num,by omega,by omega,S0,M0⟩
 case round =>
  clear S0 M0
  obtain⟨r,u,rfl,hrk,hg,HS,HM⟩:=hrel
  by_cases hr:0<r
  ·obtain⟨i,rfl⟩:∃ i,r=i+1:=⟨r - 1,by omega⟩
   have hi:(((i+1:Nat):Int) - 1)=(i:Int):=by omega
   rw[hi]
   clear hi
   have i0:(0:Int)≤(i:Int):=Int.natCast_nonneg i
   have iz:(i:Int)<(vs.length:Int):=by omega
   have iz1:(i:Int)<(X:Int)+1:=by omega
   have hiw:IntKind.i64.wrap ((i:Int) - 1)=(i:Int) - 1:=IntWalk.i64_in _ (by omega)
   obtain⟨y,hy⟩:∃ y,vs[i]? = some y:=⟨_,jG (by omega)⟩
   have HY:=jH hy
   obtain⟨n,hn⟩:∃ n,n=(form y).length:=⟨_,rfl⟩
   have HN:=jH hn
   have hnl:n≤vs.length:=by rw[hn];have:=yz (vs:=vs) (x:=y) (fun e he=>hwv.out.mem_exps (jM hy) he);simpa [pf] using this
   clear hy hn
   go_wp2_with fail
   go_loopg [7] n (fun g2 vj wq=>∃ (m:Nat) (u2:List Bool),vj=.int .i64 m∧m≤n∧n - m≤g2∧Hid (PM w1 bu X u2 wq)∧Hid (RMkI vs x X i m u2))
   case atStart=>exact⟨0,u,rfl,by omega,by omega,HS,HM.out.inner⟩
   case round =>
    clear HS HM
    obtain⟨m,u2,rfl,hmn,hg2,HS2,HM2⟩:=hrel
    have m0:(0:Int)≤(m:Int):=Int.natCast_nonneg m
    have hmw:IntKind.i64.wrap ((m:Int)+1)=(m:Int)+1:=IntWalk.i64_in _ (by omega)
    have hw:=HS2.out.rw HW1.out HNb.out
    have c0:=hw.c0
    obtain⟨ra,rc,cr,hterm⟩:=hw.rowAt rfl HY.out
    rw[← HN.out] at cr
    obtain⟨bi,hbi⟩:∃ b,u2[i]? = some b:=⟨_,jG (by have:=HM2.out.mk'.len; omega)⟩
    have cbi:=HS2.out.row.at hbi
    cases bi with
    | false =>
      have HNx:Hid (RMk vs x X i u2):=HM2.out.next HY.out (fun h=>by rw[hbi] at h; cases h)
      clear hw hterm hbi HM2
      go_wp2_with fail
      go_roundg i
      case measure=>omega
      case rel=>exact⟨i,u2,by go_num,by omega,by omega,HS2,HNx⟩
    | true =>
      by_cases hm:m<n
      ·have hmz:(m:Int)<(n:Int):=by omega
       obtain⟨⟨s,e⟩,ht⟩:∃ t,(form y)[m]? = some t:=⟨_,jG (by rw[← HN.out];exact hm)⟩
       obtain⟨b,rfl,d0,d1⟩:=hterm m _ ht
       dsimp only at d0 d1
       have hee:(exps y)[m]? = some e:=by unfold exps; rw[List.getElem?_map,ht];rfl
       have HNx:=jH (HM2.out.step hwv.out HX.out HY.out hbi hee)
       obtain⟨k,hk,hke⟩:=hwv.out.closed i y HY.out e (jM hee)
       rw[hwv.out.idx_get hke] at d1 HNx
       obtain⟨bk,hbk⟩:∃ b,u2[k]? = some b:=⟨_,jG (by have:=HM2.out.mk'.len; omega)⟩
       have cbk:=HS2.out.row.at hbk
       have fbk:=yG HS2.out.row k
       have k0:(0:Int)≤(k:Int):=Int.natCast_nonneg k
       have kz:(k:Int)<(X:Int)+1:=by omega
       have HPM:=jH (HS2.out.set k true)
       clear hw hterm hbi hbk HM2 hee hke ht d0
       go_wp2_with fail
       go_roundg (n - (m+1))
       case measure=>omega
       case rel=>exact⟨m+1,_,by go_num,by omega,by omega,HPM,HNx⟩
      ·have hmz:¬ ((m:Int)<(n:Int)):=by omega
       have HNx:Hid (RMk vs x X i u2):=HM2.out.next HY.out (fun _=>by rw[js,← HN.out];omega)
       clear hw hterm hbi HM2
       go_wp2_with fail
       go_roundg i
       case measure=>omega
       case rel=>exact⟨i,u2,by go_num,by omega,by omega,HS2,HNx⟩
  ·obtain rfl:r=0:=by omega
   have hm1:¬ ((0:Int)≤((0:Nat):Int) - 1):=by omega
   obtain⟨wm,rfl⟩:∃ w,w=wr:=⟨_,rfl⟩
   have HWr:=jH (HS.out.rw HW1.out HNb.out)
   have HBr:Hid (Below W.heap.size W wm):=⟨HS.out.fr.os.trans HBl.out.os,HS.out.fr.tape.trans HBl.out.tape,HS.out.fr.output.trans HBl.out.output,Nat.le_trans HBl.out.size HS.out.fr.size,fun b hb=>(HS.out.fr.block b (Nat.lt_of_lt_of_le hb HBl.out.size) (by simp; omega)).trans (HBl.out.block b hb)⟩
   have HUr:=jH HS.out.row
   have HMf:=jH HM.out
   obtain⟨w2,o0,hw2,ho0,HB2,HO0⟩:∃ w2 o0,wm.alloc (.cells #[] 3)=w2∧wm.heap.size=o0∧Hid (Below wm.heap.size wm w2)∧Hid (IRow w2 (.slice (some ⟨o0,0,none⟩) 0 0) (marked u 0)) :=
    ⟨_,_,rfl,rfl,(Below.refl _ _).alloc (jR _) _,⟨rfl,.inr ⟨_,0,_,rfl,Nat.zero_le _,jD _ _,jR _,by decide,rfl,rfl⟩⟩⟩
   have HOo:Hid (wm.heap.size≤o0):=Nat.le_of_eq ho0
   clear HS HM hg hrk hr
   go_wp2_with fail
   clear hw2 ho0 hm1
   go_loopg [8,9] X (fun g2 vo vi wq=>∃ (k b n c:Nat),vo=.slice (some ⟨b,0,none⟩) n c∧vi=.int .i64 k∧k≤X∧X - k≤g2∧n≤k∧Hid (IRow wq (.slice (some ⟨b,0,none⟩) n c) (marked u k))∧Hid (wm.heap.size≤b)∧Hid (Below wm.heap.size wm wq))
   case atStart=>exact⟨0,o0,0,0,rfl,rfl,by omega,by omega,by omega,HO0,HOo,HB2⟩
   case round =>
    clear HO0 HOo HB2
    obtain⟨k,b,n,c,rfl,rfl,hkX,hg2,hnk,HO,HOb,HB⟩:=hrel
    have k0:(0:Int)≤(k:Int):=Int.natCast_nonneg k
    have hkw:IntKind.i64.wrap ((k:Int)+1)=(k:Int)+1:=IntWalk.i64_in _ (by omega)
    have HUq:Hid (URow wr bu (X+1) u):=jK HUr.out HB.out
    have hln:=HO.out.len
    by_cases hk:k<X
    ·have hkz:(k:Int)<(X:Int):=by omega
     have kz1:(k:Int)<(X:Int)+1:=by omega
     obtain⟨bk,hbk⟩:∃ b,u[k]? = some b:=⟨_,jG (by have:=HMf.out.len; omega)⟩
     have cbk:=HUq.out.at hbk
     cases bk with
     | false =>
       rw[← marked_no hbk] at HO
       clear hbk hln
       go_wp2_with fail
       go_roundg (X - (k+1))
       case measure=>omega
       case rel=>exact⟨k+1,b,n,c,rfl,by go_num,by omega,by omega,by omega,HO,HOb,HB⟩
     | true =>
       have hbn:n+1≤8000000000000:=by omega
       have hl1:(marked u k).length+1=n+1:=by rw[hln]
       have hmy:=jH (marked_yes hbk)
       clear hbk hln
       go_wp2_with (at_builtin; go_loud (refine app_I2 rfl _ _ rfl (.slice (some ⟨b,0,none⟩) n c) (marked u k) rfl (World.ownsRow.alloc HO.out _) _ k rfl (jD _ _) (n+1) hl1 hbn _ rfl ?_);intro b2 c2 w3 R3 G3 A3 L3)
       have HB3:Hid (Below wm.heap.size wm w3):=Below.trans (Below.trans HB.out ((Below.refl _ _).alloc HB.out.size (.cells #[.int .i64 (k:Nat)] 3))) (j9 G3 (fun b' hb'=>by cases hb'; exact HOb.out) (by have:=HB.out.size; simp; omega))
       have HO3:Hid (wm.heap.size≤b2):=by
        rcases A3 with h | h
        ·cases h; exact HOb.out
        ·show wm.heap.size≤b2
         rw[h];have:=HB.out.size; simp; omega
       have HR3:Hid (IRow w3 (.slice (some ⟨b2,0,none⟩) (n+1) c2) (marked u (k+1))):=by rw[hmy.out];exact R3
       clear R3 G3 A3 L3
       go_roundg (X - (k+1))
       case measure=>omega
       case rel=>exact⟨k+1,b2,n+1,c2,rfl,by go_num,by omega,by omega,by omega,HR3,HO3,HB3⟩
    ·obtain rfl:X=k:=by omega
     have HS1:Hid (Srt (zb vs) (marked u X) (marked u X) 1):=⟨List.Perm.refl _,by
      cases marked u X with
      | nil=>simp
      | cons a l=>simp⟩
     obtain⟨l0,hl0⟩:∃ l,l=marked u X:=⟨_,rfl⟩
     have HR0:Hid (IRow wr (.slice (some ⟨b,0,none⟩) n c) l0):=by rw[hl0];exact HO
     have HS2:Hid (Srt (zb vs) (marked u X) l0 1):=by rw[hl0];exact HS1
     clear HO HS1 hl0 hln HUq hk
     go_wp2_with fail
     go_loopg [10] n (fun g3 vi wr=>∃ (i:Nat) (l:List Nat),vi=.int .i64 i∧1≤i∧(i≤n∨i=1)∧n - i≤g3∧Hid (IRow wr (.slice (some ⟨b,0,none⟩) n c) l)∧Hid (Srt (zb vs) (marked u X) l i)∧Hid (Below wm.heap.size wm wr))
     case atStart=>exact⟨1,l0,rfl,by omega,by omega,by omega,HR0,HS2,HB⟩
     case round =>
      clear HR0 HS2 HB
      obtain⟨i,l,rfl,hi1,hin,hg3,HR,HSr,HB⟩:=hrel
      have i0:(0:Int)≤(i:Int):=Int.natCast_nonneg i
      have hiw:IntKind.i64.wrap ((i:Int)+1)=(i:Int)+1:=IntWalk.i64_in _ (by omega)
      have hln:=HR.out.len
      by_cases hi:i<n
      ·have hiz:(i:Int)<(n:Int):=by omega
       obtain⟨y0,hy0⟩:∃ y,l[i]? = some y:=⟨_,jG (by omega)⟩
       have HI0:=jH (HSr.out.inner hy0)
       have hl0:(l.take i).length=i:=by rw[List.length_take];omega
       clear hy0 HSr hin
       go_wp2_with fail
       go_loopg [11] i (fun g4 vj wr=>∃ (kk y:Nat) (A B R l:List Nat),vj=.int .i64 kk∧kk≤g4∧kk≤i∧Hid (A.length=kk)∧Hid (IRow wr (.slice (some ⟨b,0,none⟩) n c) l)∧Hid (Ins (zb vs) (marked u X) l i A y B R)∧Hid (Below wm.heap.size wm wr))
       case atStart=>exact⟨i,y0,_,_,_,l,rfl,by omega,by omega,hl0,HR,HI0,HB⟩
       case round =>
        clear HI0 HR HB hln hl0
        obtain⟨kk,y,A,B,R,l,rfl,hg4,hki,HA,HR,HI,HB⟩:=hrel
        have kk0:(0:Int)≤(kk:Int):=Int.natCast_nonneg kk
        by_cases hkk:0<kk
        ·obtain⟨A',z,hA'⟩:∃ A' z,A=A'++[z]:=by
          rcases List.eq_nil_or_concat A with h | ⟨L,z,h⟩
          ·rw[h] at HA; have:=HA.out; simp at this; omega
          ·exact⟨L,z,by rw[h,List.concat_eq_append]⟩
         subst hA'
         obtain⟨j,hj⟩:∃ j,j=A'.length:=⟨_,rfl⟩
         have hkj:kk=j+1:=by rw[← HA.out,hj];simp
         have hle:=HI.out.eq
         have hcz:l[j]? = some z:=by rw[hle,hj,List.append_assoc,List.getElem?_append_right (jR _),Nat.sub_self];rfl
         have hcy:l[kk]? = some y:=by rw[hle,hkj,List.getElem?_append_right (by simp[hj]),show j+1 - (A'++[z]).length=0 by simp[hj]];rfl
         have mem:∀ q∈l,∃ v,vs[q]? = some v:=fun q hq=>by
          have h:=(marked_mem.1 ((HI.out.perm.mem_iff).1 hq)).1
          exact⟨_,jG (by omega)⟩
         obtain⟨vz,hvz⟩:=mem z (jM hcz)
         obtain⟨vy,hvy⟩:=mem y (jM hcy)
         have cz:=HR.out.at hcz
         have cy:=HR.out.at hcy
         have hln:=HR.out.len
         have hkl:=(jL hcy).1
         have j0:(0:Int)≤(j:Int):=Int.natCast_nonneg j
         have jn:(j:Int)<(n:Int):=by omega
         have kn:(kk:Int)<(n:Int):=by omega
         have jw:IntKind.i64.wrap ((kk:Int) - 1)=(j:Int):=by rw[IntKind.wrap_i64];omega
         have kp:(0:Int)<(kk:Int):=by omega
         have hC:∀ N,Calls Tryz.prog 84 #[.pointer (some ⟨p,0,none⟩),.int .i64 (z:Nat),.int .i64 (y:Nat)] (wr.drewN N) fun e' W'=>e'=.returned (.int .i64 (isg (vz - vy)))∧∃ m,W'=(wr.drewN N).drewN m:=fun N=>yO (((HWr.out.below HB.out)).drewN N) hvz hvy
         by_cases hlt:vy<vz
         ·have HI2:=HI.out.swap (by rw[zE hvy,zE hvz];exact hlt)
          rw[← hj] at HI2
          rw[← hkj] at HI2
          have HI3:=jH HI2
          rw[zu (by omega)] at hC
          have fz:=HR.out.free j
          have fy:=HR.out.free kk
          have HJ:Hid (A'.length=j):=hj.symm
          have HR2:Hid (∀ M,IRow (((wr.drewN M).setCell ⟨b,j,none⟩ (.int .i64 (y:Nat))).setCell ⟨b,kk,none⟩ (.int .i64 (z:Nat))) (.slice (some ⟨b,0,none⟩) n c) ((l.set j y).set kk z)):=fun M=>(IRow.set (W:=wr.drewN M) (jK HR.out (jN _ _)) j y).set kk z
          have HB2:Hid (∀ M,Below wm.heap.size wm (((wr.drewN M).setCell ⟨b,j,none⟩ (.int .i64 (y:Nat))).setCell ⟨b,kk,none⟩ (.int .i64 (z:Nat)))):=fun M=>⟨HB.out.os,HB.out.tape,HB.out.output,by have:=HB.out.size; simpa using this,fun q hq=>(jS _ _ _ _ (by show q≠b; have:=HOb.out; omega)).trans ((jS _ _ _ _ (by show q≠b; have:=HOb.out; omega)).trans (HB.out.block q hq))⟩
          have hjk:j<kk:=by omega
          have hjl:j≤i:=by omega
          have hjg:j≤gk - 1:=by omega
          clear hle hcz hcy mem hvz hvy hln hkl HI2 HI HA hkj hj HR HB
          go_wp2_with fail
          go_quiet (first | (go_at_call 84; exact Calls.quiet_of (hC _)))
          go_wp2_with fail
          go_region
          go_wp2_with fail
          go_roundg (gk - 1)
          case measure=>omega
          case rel=>exact⟨j,y,A',z::B,R,_,rfl,hjg,hjl,HJ,HR2.out _,HI3,HB2.out _⟩
         ·have hne:vz≠vy:=fun h=>by
           have hzy:z=y:=(hwv.out.same hvz hvy).2 h
           have hnd:l.Nodup:=(HI.out.perm.nodup_iff).2 (marked_nodup u X)
           subst hzy
           obtain⟨k1,e1⟩:=jL hcz
           obtain⟨k2,e2⟩:=jL hcy
           have f1:=List.Nodup.idxOf_getElem hnd j k1
           have f2:=List.Nodup.idxOf_getElem hnd kk k2
           rw[e1] at f1; rw[e2] at f2
           omega
          have HS3:=jH (HI.out.stop (.inr ⟨A',z,rfl,by rw[zE hvy,zE hvz];omega⟩))
          rw[za (by omega)] at hC
          have HB3:Hid (∀ M,Below wm.heap.size wm (wr.drewN M)):=fun M=>⟨HB.out.os,HB.out.tape,HB.out.output,HB.out.size,HB.out.block⟩
          have HR3:Hid (∀ M,IRow (wr.drewN M) (.slice (some ⟨b,0,none⟩) n c) l):=fun M=>HR.out
          clear hle hcz hcy mem hvz hvy hln hkl HI HA hkj hj HR HB
          go_wp2_with fail
          go_quiet (first | (go_at_call 84; exact Calls.quiet_of (hC _)))
          go_wp2_with fail
          go_roundg (n - (i+1))
          case measure=>omega
          case rel=>exact⟨i+1,l,by go_num,by omega,by omega,by omega,HR3.out _,HS3,HB3.out _⟩
        ·obtain rfl:kk=0:=by omega
         have HS3:=jH (HI.out.stop (.inl (List.length_eq_zero_iff.1 HA.out)))
         have HB3:Hid (∀ M,Below wm.heap.size wm (wr.drewN M)):=fun M=>⟨HB.out.os,HB.out.tape,HB.out.output,HB.out.size,HB.out.block⟩
         have HR3:Hid (∀ M,IRow (wr.drewN M) (.slice (some ⟨b,0,none⟩) n c) l):=fun M=>HR.out
         clear HI HA HR HB
         go_wp2_with fail
         go_quiet (fail)
         go_wp2_with fail
         go_roundg (n - (i+1))
         case measure=>omega
         case rel=>exact⟨i+1,l,by go_num,by omega,by omega,by omega,HR3.out _,HS3,HB3.out _⟩
      ·have hS9:Srt (zb vs) (marked u X) l l.length:=⟨HSr.out.perm,by rw[List.take_length];have:=HSr.out.srt; rwa [List.take_of_length_le (by omega)] at this⟩
       have hfin:=parts_srt hwv.out HX.out HMf.out hS9
       have hl1:l.length+1=n+1:=by rw[hln]
       have hbn:n+1≤8000000000000:=by omega
       have HFin:=jH hfin
       clear hS9 hfin hln
       go_wp2_with (at_builtin; go_loud (refine app_I2 rfl _ _ rfl (.slice (some ⟨b,0,none⟩) n c) l rfl (World.ownsRow.alloc HR.out _) _ X rfl (jD _ _) (n+1) hl1 hbn _ rfl ?_);intro b2 c2 w3 R3 G3 A3 L3)
       go_ret
       refine⟨_,rfl,?_,?_⟩
       ·rw[← HFin.out];exact R3
       ·exact Below.trans' HBr.out (Below.trans (Below.trans HB.out ((Below.refl _ _).alloc HB.out.size (.cells #[.int .i64 (X:Nat)] 3))) (j9 G3 (fun b' hb'=>by cases hb'; exact HOb.out) (by have:=HB.out.size; simp; omega)))
end
section
variable {vs:List Int} {X:Nat}
theorem rheight_le (hw:WV vs): ∀ (i:Nat) (y:Int),vs[i]? = some y→height y≤i:=by
 intro i
 induction i using Nat.strongRecOn with
 | ind i ih =>
   intro y hy
   rw[qs]
   have key:∀ l:List Nat,(∀ h∈l,h≤i)→maxl l≤i:=fun l=>by
    induction l with
    | nil=>intro _; simp[maxl]
    | cons a l ih2 =>
      intro h
      have h1:=h a (by simp)
      have h2:=ih2 (fun b hb=>h b (by simp[hb]))
      simp only[maxl];omega
   refine key _ fun h hh=>?_
   obtain⟨e,he,rfl⟩:=List.mem_map.1 hh
   obtain⟨k,hk,hke⟩:=hw.closed i y hy e he
   have:=ih k hk _ hke; omega
theorem rmaxl_append (a b:List Nat): maxl (a++b)=max (maxl a) (maxl b):=by
 induction a with
 | nil=>simp[maxl]
 | cons x a ih=>simp only[List.cons_append,maxl,ih];omega
structure HSt (vs:List Int)(X i m:Nat)(h:List Nat): Prop where
 len:h.length=X+1
 done:∀ j y,j<i→vs[j]? = some y→h[j]? = some (height y)
 mid:∀ y,vs[i]? = some y→i≤X→h[i]? = some (maxl (((exps y).take m).map fun (e:Nat)=>height (e:Int)+1))
 rest:∀ j,i<j→j≤X→h[j]? = some 0
theorem HSt.start (hw:WV vs)(X:Nat): HSt vs X 1 0 (List.replicate (X+1) 0) where
 len:=by simp
 done:=fun j y hj hy=>by
  obtain rfl:j=0:=by omega
  rw[hw.zero] at hy; cases hy
  have:height 0=0:=by rw[qs];simp[exps,j5,maxl]
  rw[this];simp
 mid:=fun y _ hX=>by simp[maxl,List.getElem?_replicate];omega
 rest:=fun j _ hj=>by simp[List.getElem?_replicate];omega
theorem HSt.step {i m e k:Nat}{y:Int}{h:List Nat}{a:Nat}(hs:HSt vs X i m h)(hy:vs[i]? = some y)(hi:i≤X)(he:(exps y)[m]? = some e)(hk:vs[k]? = some (e:Int))(hki:k<i)(ha:h[i]? = some a): h[k]? = some (height (e:Int))∧HSt vs X i (m+1) (h.set i (max a (height (e:Int)+1))):=by
 refine⟨hs.done k _ hki hk,by rw[List.length_set];exact hs.len,fun j z hj hz=>?_,fun z hz _=>?_,fun j hj hj2=>?_⟩
 ·rw[List.getElem?_set_ne (by omega)];exact hs.done j z hj hz
 ·rw[hy] at hz; cases hz
  have:=hs.mid y hy hi
  rw[ha] at this
  have e1:=Option.some.inj this
  rw[List.getElem?_set_self (jL ha).1,List.take_add_one,he,e1]
  simp only[Option.toList_some,List.map_append,List.map_cons,List.map_nil,rmaxl_append,maxl]
  (try congr 1);(try omega)
 ·rw[List.getElem?_set_ne (by omega)];exact hs.rest j hj hj2
theorem HSt.next {i m:Nat}{y:Int}{h:List Nat}(hs:HSt vs X i m h)(hy:vs[i]? = some y)(hi:i≤X)(hm:(exps y).length≤m): HSt vs X (i+1) 0 h :=
 ⟨hs.len,fun j z hj hz=>by
  rcases Nat.lt_or_ge j i with h1 | h1
  ·exact hs.done j z h1 hz
  ·obtain rfl:j=i:=by omega
   rw[hy] at hz; cases hz
   rw[hs.mid y hy hi,List.take_of_length_le hm,← qs],fun z _ hX=>by
  rw[List.take_zero,List.map_nil];exact hs.rest (i+1) (by omega) hX,fun j hj hj2=>hs.rest j (by omega) hj2⟩
theorem rHeight_calls {C:List Int}{W:World}{p:Nat}{fv:Value}{fl:List Value}(H:RW C W p fv fl vs){x:Int}(hX:vs[X]? = some x):
 Calls Tryz.prog 138 #[.pointer (some ⟨p,0,none⟩),.int .i64 (X:Nat)] W fun e W'=>e=.returned (.int .i64 (height x:Nat))∧Hid (Below W.heap.size W W'):=by
 have hwv:=jH H.wv
 have hvl:=H.vlen
 have HX:=jH hX
 have hXl:X<vs.length:=(jL hX).1
 have hXw:IntKind.i64.wrap ((X:Int)+1)=(X:Int)+1:=by rw[IntKind.wrap_i64];omega
 have X0:(0:Int)≤(X:Int):=by omega
 have X1:(X:Int)<(X:Int)+1:=by omega
 have hmk1:∀ w,(Instr.makeSlice 80 (.int .i64 ((X:Int)+1)) (.int .i64 ((X:Int)+1))).run Tryz.prog w=.ok (.slice (some ⟨w.heap.size,0,none⟩) (X+1) (X+1)) (w.alloc (.cells (madeCells #[.int .i64 0] (X+1)) 3)):=fun w =>
  run_make_row' (P:=Tryz.prog) 80 3 (.int .i64 0) 8 un80 info3 rfl .i64 .i64 (X+1) (by omega) (by omega) w
 have hrowM:=made_row (W:=W) 3 (.int .i64 0) (X+1) (by simp only[maxLen];omega)
 obtain⟨w1,bh,hw1,hbh,HR0,HB0⟩:∃ w1 bh,W.alloc (.cells (madeCells #[.int .i64 0] (X+1)) 3)=w1∧W.heap.size=bh∧Hid (IRow w1 (.slice (some ⟨bh,0,none⟩) (X+1) (X+1)) (List.replicate (X+1) 0))∧Hid (Below W.heap.size W w1):=by
  refine⟨_,_,rfl,rfl,?_,(Below.refl _ _).alloc (jR _) _⟩
  show World.ownsRow _ _ _ _ _ _ _
  rw[List.map_replicate,List.length_replicate];exact hrowM
 have HH:=jH H
 have hbW:Hid (W.heap.size≤bh):=Nat.le_of_eq hbh
 have S0:=jH (HSt.start hwv.out X)
 obtain⟨g,cap,hfv,-⟩:=H.formAt
 subst hfv
 clear hrowM H hX
 go_enter Tryz.func138,Tryz.ntmps138
 go_wp2_with fail
 clear hmk1 hw1 hbh
 go_loopg [6] X (fun g1 vi wr=>∃ (i:Nat) (h:List Nat),vi=.int .i64 i∧1≤i∧i≤X+1∧X+1 - i≤g1∧Hid (IRow wr (.slice (some ⟨bh,0,none⟩) (X+1) (X+1)) h)∧Hid (HSt vs X i 0 h)∧Hid (Below W.heap.size W wr))
 case atStart=>exact⟨1,_,rfl,by omega,by omega,by omega,HR0,S0,HB0⟩
 case round =>
  clear HR0 S0 HB0
  obtain⟨i,h,rfl,hi1,hiX,hg,HR,HS,HB⟩:=hrel
  have i0:(0:Int)≤(i:Int):=by omega
  have hiw:IntKind.i64.wrap ((i:Int)+1)=(i:Int)+1:=IntWalk.i64_in _ (by omega)
  by_cases hi:i≤X
  ·have hiz:(i:Int)≤(X:Int):=by omega
   have hiz1:(i:Int)<(X:Int)+1:=by omega
   have hizv:(i:Int)<(vs.length:Int):=by omega
   obtain⟨y,hy⟩:∃ y,vs[i]? = some y:=⟨_,jG (by omega)⟩
   have HY:=jH hy
   obtain⟨n,hn⟩:∃ n,n=(form y).length:=⟨_,rfl⟩
   have HN:=jH hn
   have hnl:n≤vs.length:=by rw[hn];have:=yz (vs:=vs) (x:=y) (fun e he=>hwv.out.mem_exps (jM hy) he);simpa [pf] using this
   clear hy hn
   go_wp2_with fail
   go_loopg [7] n (fun g2 vj wr=>∃ (m:Nat) (h:List Nat),vj=.int .i64 m∧m≤n∧n - m≤g2∧Hid (IRow wr (.slice (some ⟨bh,0,none⟩) (X+1) (X+1)) h)∧Hid (HSt vs X i m h)∧Hid (Below W.heap.size W wr))
   case atStart=>exact⟨0,h,rfl,by omega,by omega,HR,HS,HB⟩
   case round =>
    clear HR HS HB
    obtain⟨m,h,rfl,hmn,hg2,HR,HS,HB⟩:=hrel
    have m0:(0:Int)≤(m:Int):=Int.natCast_nonneg m
    have hmw:IntKind.i64.wrap ((m:Int)+1)=(m:Int)+1:=IntWalk.i64_in _ (by omega)
    have hw:=HH.out.below HB.out
    have c0:=hw.c0
    obtain⟨ra,rc,cr,hterm⟩:=hw.rowAt rfl HY.out
    rw[← HN.out] at cr
    by_cases hm:m<n
    ·have hmz:(m:Int)<(n:Int):=by omega
     obtain⟨⟨s,e⟩,ht⟩:∃ t,(form y)[m]? = some t:=⟨_,jG (by rw[← HN.out];exact hm)⟩
     obtain⟨b,rfl,d0,d1⟩:=hterm m _ ht
     dsimp only at d0 d1
     have hee:(exps y)[m]? = some e:=by unfold exps; rw[List.getElem?_map,ht];rfl
     obtain⟨k,hk,hke⟩:=hwv.out.closed i y HY.out e (jM hee)
     rw[hwv.out.idx_get hke] at d1
     obtain⟨a,ha⟩:∃ a,h[i]? = some a:=⟨_,jG (by have:=HS.out.len; omega)⟩
     obtain⟨hkh,hs2⟩:=HS.out.step HY.out hi hee hke hk ha
     have hhl:=rheight_le hwv.out k _ hke
     obtain⟨q,hq⟩:∃ q,q=height (e:Int):=⟨_,rfl⟩
     rw[← hq] at hkh hs2 hhl
     have ca:=HR.out.at ha
     have cq:=HR.out.at hkh
     have fa:=HR.out.free i
     have k0:(0:Int)≤(k:Int):=Int.natCast_nonneg k
     have kz:(k:Int)<(X:Int)+1:=by omega
     have hqw:IntKind.i64.wrap ((q:Int)+1)=(q:Int)+1:=IntWalk.i64_in _ (by omega)
     have HS2:=jH hs2
     have HR2:Hid (∀ v:Nat,v=max a (q+1)→IRow (wr.setCell ⟨bh,i,none⟩ (.int .i64 (v:Nat))) (.slice (some ⟨bh,0,none⟩) (X+1) (X+1)) (h.set i (max a (q+1)))):=fun v hv=>by subst hv; exact HR.out.set i _
     have HB2:Hid (∀ v,Below W.heap.size W (wr.setCell ⟨bh,i,none⟩ v)):=fun v=>⟨HB.out.os,HB.out.tape,HB.out.output,by have:=HB.out.size; simpa using this,fun z hz=>(jS _ _ _ _ (by show z≠bh; have:=hbW.out; omega)).trans (HB.out.block z hz)⟩
     have hmx:max (a:Int) ((q:Int)+1)=((max a (q+1):Nat):Int):=by omega
     clear hw hterm hee hke ht d0 ha hkh hq hs2 HS
     go_wp2_with fail
     go_region
     go_wp2_with fail
     go_roundg (n - (m+1))
     case measure=>omega
     case rel=>exact⟨m+1,_,by go_num,by omega,by omega,jK (HR2.out _ rfl) ((Below.refl _ _).drew),HS2,(HB2.out _).drew⟩
    ·have hmz:¬ ((m:Int)<(n:Int)):=by omega
     have HS2:=jH (HS.out.next HY.out hi (by rw[js,← HN.out];omega))
     clear hw hterm HS
     go_wp2_with fail
     go_roundg (X+1 - (i+1))
     case measure=>omega
     case rel=>exact⟨i+1,h,by go_num,by omega,by omega,by omega,HR,HS2,HB⟩
  ·have hiz:¬ ((i:Int)≤(X:Int)):=by omega
   have hx:=HS.out.done X x (by omega) HX.out
   have cx:=HR.out.at hx
   clear hx HS HR
   go_wp2_with fail
   go_ret
   exact⟨rfl,HB⟩
open Classical in
theorem rAllowed_calls {C:List Int}{W:World}{p:Nat}{fv:Value}{fl:List Value}(H:RW C W p fv fl vs){x:Int}(hX:vs[X]? = some x):
 Calls Tryz.prog 117 #[.pointer (some ⟨p,0,none⟩),.int .i64 (X:Nat)] W fun e W'=>e=.returned (.bool (decide (allowed x)))∧Hid (Below W.heap.size W W'):=by
 have hwv:=jH H.wv
 have hvl:=H.vlen
 have HX:=jH hX
 have HH:=jH H
 have hP:=rParts_calls H hX
 have hm:∀ q∈Sr.parts x,(q:Int)∈vs:=fun q hq=>H.wv.mem_parts (jM hX) (mem_parts.1 hq)
 have Hm:=jH hm
 obtain⟨L,hL⟩:∃ L,L=((Sr.parts x).map fun (q:Nat)=>vs.idxOf (q:Int))++[X]:=⟨_,rfl⟩
 rw[← hL] at hP
 have HL:=jH hL
 obtain⟨g,cap,hfv,-⟩:=H.formAt
 subst hfv
 have HG:Hid (∀ (i j:Nat),L[i]? = some j→∃ y,vs[j]? = some y∧((i<(Sr.parts x).length∧∃ q:Nat,(Sr.parts x)[i]? = some q∧y=(q:Int))∨(i=(Sr.parts x).length∧y=x))):=fun i j hij=>by
  rw[hL] at hij
  rcases Nat.lt_or_ge i (Sr.parts x).length with h | h
  ·rw[List.getElem?_append_left (by simpa using h),List.getElem?_map] at hij
   obtain⟨q,hq,rfl⟩:=Option.map_eq_some_iff.1 hij
   exact⟨(q:Int),jU (hm q (jM hq)),.inl ⟨h,q,hq,rfl⟩⟩
  ·rw[List.getElem?_append_right (by simpa using h)] at hij
   have h2:=(jL hij).1
   simp at h2
   have h3:i=(Sr.parts x).length:=by omega
   rw[h3] at hij
   simp at hij
   subst hij
   exact⟨x,hX,.inr ⟨h3,rfl⟩⟩
 have hLl:L.length=(Sr.parts x).length+1:=by rw[hL];simp
 obtain⟨n,hn⟩:∃ n,n=L.length:=⟨_,rfl⟩
 have HN:=jH hn
 have hnn:n=(Sr.parts x).length+1:=hn.trans hLl
 have HNn:=jH hnn
 have hn1:n≤6000000000000:=by
  have h1:=jT (Sr.parts x) (vs.map Int.toNat) (qE x) (fun q hq=>List.mem_map.2 ⟨(q:Int),hm q hq,by simp⟩)
  rw[List.length_map] at h1; omega
 clear H hX hL hm hn hnn hLl
 go_enter Tryz.func117,Tryz.ntmps117
 go_wp2_with fail
 refine hP.mono ?_
 rintro e w1 ⟨v1,rfl,hr1,hb1⟩
 obtain⟨a1,n1,c1,hv1⟩:∃ a n c,v1=.slice a n c:=by
  obtain⟨_,⟨h,_⟩ | ⟨g',cap',cur,h,_⟩⟩:=hr1.out
  ·exact⟨_,_,_,h⟩
  ·exact⟨_,_,_,h⟩
 subst hv1
 obtain rfl:n1=n:=by rw[HN.out];exact hr1.out.len
 have hH:=jH (fun M=>rHeight_calls ((HH.out.below hb1.out).drewN M) HX.out)
 clear hP
 go_wp2_with fail
 go_loopg [6] n1 (fun g1 vi wr=>∃ (i m:Nat),vi=.int .i64 i∧i≤n1∧n1 - i≤g1∧wr=w1.drewN m∧Hid (∀ j<i,∀ d y,L[j]? = some d→vs[d]? = some y→(form y).length≤300))
 case atStart=>exact⟨0,0,rfl,by omega,by omega,rfl,fun j hj=>by omega⟩
 case round =>
  obtain⟨i,m,rfl,hi,hg,rfl,HA⟩:=hrel
  have i0:(0:Int)≤(i:Int):=Int.natCast_nonneg i
  have hiw:IntKind.i64.wrap ((i:Int)+1)=(i:Int)+1:=IntWalk.i64_in _ (by omega)
  by_cases hin:i<n1
  ·have hiz:(i:Int)<(n1:Int):=by omega
   obtain⟨d,hd⟩:∃ d,L[i]? = some d:=⟨_,jG (by rw[← HN.out];exact hin)⟩
   obtain⟨y,hy,hwho⟩:=HG.out i d hd
   obtain⟨gl,hgl,cl⟩:∃ b,a1=some ⟨b,0,none⟩∧w1.cell? ⟨b,i,none⟩=some (.int .i64 (d:Nat)):=by
    obtain⟨g',cap',hv,hc⟩:=qS (k:=i) (x:=.int .i64 (d:Nat)) hr1.out (by rw[List.getElem?_map,hd];rfl)
    obtain⟨e1,_,_⟩:=Value.slice.inj hv
    exact⟨g',e1,hc⟩
   subst hgl
   have hw:=HH.out.below hb1.out
   have c0:=hw.c0
   obtain⟨ra,rc,cr,-⟩:=hw.rowAt rfl hy
   have hdl:=(jL hy).1
   have d0:(0:Int)≤(d:Int):=Int.natCast_nonneg d
   have dz:(d:Int)<(vs.length:Int):=by omega
   obtain⟨k,hk⟩:∃ k,k=(form y).length:=⟨_,rfl⟩
   rw[← hk] at cr
   by_cases h300:k≤300
   ·have hz:¬ ((300:Int)<(k:Int)):=by omega
    have hz2:decide ((300:Int)<(k:Int))=false:=by simpa using hz
    have HA2:Hid (∀ j<i+1,∀ d y,L[j]? = some d→vs[d]? = some y→(form y).length≤300):=fun j hj d' y' h1 h2=>by
     by_cases hji:j=i
     ·subst hji; rw[hd] at h1; cases h1; rw[hy] at h2; cases h2; omega
     ·exact HA.out j (by omega) d' y' h1 h2
    clear hw hd hy hwho hk HA
    go_wp2_with fail
    go_quiet (fail)
    go_wp2_with fail
    go_roundg (n1 - (i+1))
    case measure=>omega
    case rel=>exact⟨i+1,_,by go_num,by omega,by omega,(by first | rfl | exact World.drewN_drewN _ _ _),HA2⟩
   ·have hz:(300:Int)<(k:Int):=by omega
    have hno:Hid (¬ allowed x):=fun ha=>by
     rcases hwho with ⟨_,q,hq,rfl⟩ | ⟨_,rfl⟩
     ·have:=ha.2.1 q (jM hq);omega
     ·have:=ha.1; omega
    clear hw hd hy hwho hk HA
    go_wp2_with fail
    go_quiet (fail)
    go_wp2_with fail
    go_ret
    refine⟨?_,Below.trans' (Below.trans' hb1.out (jN _ _)) (jN _ _)⟩
    show Ending.returned (.bool false)=_
    rw[decide_eq_false hno.out]
  ·have hall:Hid ((form x).length≤300∧∀ q∈Sr.parts x,(form (q:Int)).length≤300):=by
    have key:∀ (j d:Nat) (y:Int),L[j]? = some d→vs[d]? = some y→(form y).length≤300:=fun j d y h1 h2=>HA.out j (by have:=(jL h1).1; rw[← HN.out] at this; omega) d y h1 h2
    refine⟨key (Sr.parts x).length X x ?_ HX.out,fun q hq=>?_⟩
    ·rw[HL.out,List.getElem?_append_right (by simp)];simp
    ·have hg:=qY hq
     refine key ((Sr.parts x).idxOf q) (vs.idxOf (q:Int)) q ?_ (jU (Hm.out q hq))
     rw[HL.out,List.getElem?_append_left (by simpa using (jL hg).1),List.getElem?_map,hg];rfl
   obtain⟨ht,hht⟩:∃ h,h=height x:=⟨_,rfl⟩
   by_cases h2000:n1≤2000
   ·have hz:(n1:Int)≤2000:=by omega
    have hC:=hH.out m
    rw[← hht] at hC
    clear HA
    go_wp2_with fail
    refine hC.mono ?_
    rintro y w2 ⟨rfl,hb2⟩
    have HB2:=jH hb2.out
    by_cases h100:ht≤100
    ·have hz1:(ht:Int)≤100:=by omega
     have hyes:allowed x:=⟨hall.out.1,hall.out.2,by have:=HNn.out; omega,by omega⟩
     clear hC hb2 hht
     go_wp2_with fail
     go_ret
     refine⟨?_,Below.trans' (Below.trans' hb1.out (jN _ _)) HB2.out⟩
     show Ending.returned (.bool true)=_
     rw[decide_eq_true hyes]
    ·have hz1:¬ ((ht:Int)≤100):=by omega
     have hz2:decide ((ht:Int)≤100)=false:=by simpa using hz1
     have hno:¬ allowed x:=fun ha=>by have:=ha.2.2.2; omega
     clear hC hb2 hht
     go_wp2_with fail
     go_ret
     refine⟨?_,Below.trans' (Below.trans' hb1.out (jN _ _)) HB2.out⟩
     show Ending.returned (.bool false)=_
     rw[decide_eq_false hno]
   ·have hz:¬ ((n1:Int)≤2000):=by omega
    have hz2:decide ((n1:Int)≤2000)=false:=by simpa using hz
    have hno:¬ allowed x:=fun ha=>by have:=ha.2.2.1; have:=HNn.out; omega
    clear HA hht
    go_wp2_with fail
    go_ret
    refine⟨?_,Below.trans' hb1.out (jN _ _)⟩
    show Ending.returned (.bool false)=_
    first | rfl | rw[decide_eq_false hno]
end
section
def tw (n:Nat): List UInt8:=[UInt8.ofNat (n / 256),UInt8.ofNat n]
def sb (s:Bool): UInt8:=if s then 1 else 0
def wl (l:List PT): List UInt8:=tw l.length++l.flatMap fun t=>sb t.1::tw t.2
noncomputable def nbytes (x:Int): List UInt8:=tw ((Sr.parts x).length+1)++((Sr.parts x).flatMap fun (p:Nat)=>wl (atPl (Sr.parts x) (p:Int)))++wl (atPl (Sr.parts x) x)
theorem yb (n:Nat): (tw n).length=2:=rfl
theorem tw_cells (n:Nat): (#[Value.int .u8 ((n:Int) / 256 % 256),.int .u8 ((n:Int) % 256)]).toList=(tw n).map fun b=>.int .u8 (b.toNat:Nat):=by
 simp only[tw,List.map_cons,List.map_nil,u8z]
 simp
structure Gb (W:World)(v:Value)(W':World)(v':Value): Prop where
 fr:Fr v.ownBlock.toList W W'
 own:v'.ownBlock=v.ownBlock∨∀ b,v'.ownBlock=some b→W.heap.size≤b
variable {w3 w1:World} {v v' ov:Value} {b3:Nat} {x:Int}
theorem Gb.of {W:World}{o:Obj}(G:(W.alloc o).grownBy w3 v.ownBlock)(A:v'.ownBlock=v.ownBlock∨v'.ownBlock=some (W.alloc o).heap.size): Gb W v w3 v':=by
 refine⟨⟨G.os,G.tape,G.output,by have:=G.size; simp at this; omega,fun b hb hn=>?_⟩,?_⟩
 ·exact (G.block b (by simp; omega) (fun e=>hn (by simp[← e]))).trans (jE _ _ hb)
 ·rcases A with A | A
  ·exact .inl A
  ·refine .inr fun b e=>?_
   rw[A] at e
   have:b=W.heap.size+1:=by simpa using e.symm
   omega
theorem Gb.trans {W W' W'':World}{v v' v'':Value}(h:Gb W v W' v')(k:Gb W' v' W'' v''): Gb W v W'' v'':=by
 have hs:=h.fr.size
 refine⟨⟨k.fr.os.trans h.fr.os,k.fr.tape.trans h.fr.tape,k.fr.output.trans h.fr.output,Nat.le_trans hs k.fr.size,fun b hb hn=>?_⟩,?_⟩
 ·rw[k.fr.block b (by omega) (fun e=>by
   have e':v'.ownBlock=some b:=by simpa using e
   rcases h.own with h1 | h1
   ·exact hn (by rw[← h1];exact e)
   ·have:=h1 b e'; omega)]
  exact h.fr.block b hb hn
 ·rcases k.own with k1 | k1
  ·rcases h.own with h1 | h1
   ·exact .inl (k1.trans h1)
   ·exact .inr fun b e=>h1 b (k1▸e)
  ·exact .inr fun b e=>Nat.le_trans hs (k1 b e)
theorem Gb.at {W:World}{o:Obj}{g n cap H:Nat}(G:(W.alloc o).grownBy w3 v.ownBlock)(hH:(W.alloc o).heap.size=H)(A:v.ownBlock=some g∨g=H): Gb W v w3 (.slice (some ⟨g,0,none⟩) n cap) :=
 Gb.of G (by
  rcases A with A | A
  ·exact .inl A.symm
  ·exact .inr (by rw[hH,A];rfl))
theorem BRow.form {W:World}{v:Value}{l:List UInt8}(h:BRow W v l)(hn:0<l.length): ∃ g cap,v=.slice (some ⟨g,0,none⟩) l.length cap:=by
 obtain⟨g,cap,hv,_⟩:=World.ownsRow.form h hn
 exact⟨g,cap,hv⟩
theorem two_calls {W:World}{l:List UInt8}{n:Nat}(h:BRow W v l)(_hn:n≤1000000)(hl:l.length≤1000000000):
 Calls Tryz.prog 108 #[v,.int .i64 (n:Nat)] W fun e W'=>∃ v',e=.returned v'∧Hid (BRow W' v' (l++tw n))∧Hid (Gb W v W' v'):=by
 have HR:=jH h
 have hlb:l.length+2≤1099511627776:=by omega
 have n0:(0:Int)≤(n:Int):=Int.natCast_nonneg n
 clear h
 go_enter Tryz.func108,Tryz.ntmps108
 go_wp2_with (at_builtin; go_loud (refine app_B rfl _ _ rfl v l rfl (World.ownsRow.alloc HR.out _) _ 2 (tw n) rfl rfl _ (tw_cells n) (jD _ _) hlb ?_);intro v' w3 K3 G3 A3
              have HK:=jH K3
              have HG:=jH (Gb.of G3 A3)
              clear K3 G3 A3)
 go_ret
 exact⟨v',rfl,HK,HG⟩
section
variable {ops:Array Oper} {o:Oper} {a:Act} {Q:Exit→Act→World→Prop} {K:Act→World→Prop} {W:World} {E:Prop}
theorem step_B1 (hgd:o.guard=none)(s x:Operand)(ho:o.op=.call { callee:=.builtin .append,args:=#[s,x],argTypes:=#[40,40] }) 
 (v:Value) (l:List UInt8) (hs:a.eval s=v) (hown:BRow W v l) (B:Nat) (b:UInt8) (hx:a.eval x=.slice (some ⟨B,0,none⟩) 1 1) (c:Int) (hc:c=(b.toNat:Nat))
 (hB:W.heap[B]? = some (.cells #[.int .u8 c] 5 (0,0))) (hb:l.length+1≤1099511627776) (H:Nat) (hH:W.heap.size=H)
 (h:∀ g cap w',BRow w' (.slice (some ⟨g,0,none⟩) (l.length+1) cap) (l++[b])→W.grownBy w' v.ownBlock→(v.ownBlock=some g∨g=H)→g<w'.heap.size→K (a.put o.dst (.slice (some ⟨g,0,none⟩) (l.length+1) cap)) w') :
 if Region.wanted o (yielded ops a.tmps)=true then Oper.wp Tryz.prog o a W K Q else E:=by
 obtain⟨i,hi,hz0,hz1,hz2⟩:=info_parts info5
 subst hc
 refine step_append_lies W hgd s x 40 ho 0 5 i _ 1 1 un40 hi hz0 hz1 hz2 rfl (by decide) v l.length _ hs hown ⟨B,0,none⟩ 1 1 [.int .u8 (b.toNat:Nat)] hx rfl (fun j u hu=>World.news_of_block hB j u hu) (by simp; rfl) (by omega) (by simp only[maxLen];omega) (by omega) (Nat.zero_le _) H hH ?_
 intro g cap w' k1 k2 k3 k4
 refine h g cap w' ?_ k2 k3 k4
 unfold BRow
 rw[List.length_append,List.map_append];exact k1
end
structure OB (w1:World)(b3:Nat)(l:List UInt8)(ov:Value)(w:World): Prop where
 fr:Fr [b3] w1 w
 box:w.heap[b3]? = some (.cells #[ov] 40 (0,0))
 row:BRow w ov l
 own:∀ b,ov.ownBlock=some b→w1.heap.size≤b
theorem OB.below {w w':World}{l:List UInt8}(S:OB w1 b3 l ov w)(hb:Below w.heap.size w w'): OB w1 b3 l ov w' :=
 ⟨⟨hb.os.trans S.fr.os,hb.tape.trans S.fr.tape,hb.output.trans S.fr.output,Nat.le_trans S.fr.size hb.size,fun c hc hn=>(hb.block c (Nat.lt_of_lt_of_le hc S.fr.size)).trans (S.fr.block c hc hn)⟩,Below.here hb S.box,jK S.row hb,S.own⟩
theorem OB.store {w:World}{l l':List UInt8}(S:OB w1 b3 l ov w)(hr:BRow w3 v' l')(hg:Gb w ov w3 v'):
 w3.cell? ⟨b3,0,none⟩=some ov∧w3.frozen? ⟨b3,0,none⟩=false∧OB w1 b3 l' v' (w3.setCell ⟨b3,0,none⟩ v'):=by
 have hs:=S.fr.size
 have hne:ov.ownBlock≠some b3:=fun e=>by
  obtain⟨c,hc⟩:=jO S.row e
  exact jI hc S.box (by decide) rfl
 have h3:w3.heap[b3]? = some (.cells #[ov] 40 (0,0)):=(hg.fr.block b3 (jA S.box).1 (by simpa using hne)).trans S.box
 have hs3:=hg.fr.size
 refine⟨by rw[jB h3];rfl,jF h3 0,⟨⟨hg.fr.os.trans S.fr.os,hg.fr.tape.trans S.fr.tape,hg.fr.output.trans S.fr.output,by simp; omega,fun b hb hn=>?_⟩,heap_setCell_same w3 b3 0 _ 40 _ h3,?_,fun b e=>?_⟩⟩
 ·have hb3:b≠b3:=by simpa using hn
  rw[jS _ _ _ _ (by show b≠b3; exact hb3),hg.fr.block b (by omega) (fun h=>by have:=S.own b (by simpa using h);omega)]
  exact S.fr.block b hb hn
 ·exact jJ hr fun b e=>jS _ _ _ _ (by
   show b≠b3
   obtain⟨c,hc⟩:=jO hr e
   exact jI hc h3 (by decide))
 ·rcases hg.own with h | h
  ·exact S.own b (h▸e)
  ·have:=h b e; omega
def WrQ (w1:World)(b3:Nat)(l:List UInt8)(e:Ending)(W':World): Prop:=∃ ov',e=.returned (.tuple #[])∧Hid (OB w1 b3 l ov' W')
theorem write_calls {W:World}{acc:List UInt8}(S:Hid (OB w1 b3 acc ov W)){l:List PT}(hl:TRow w1 v l)(hvb:∀ b,v.ownBlock=some b→b≠b3)(hn:l.length≤300)(hp:∀ t∈l,t.2≤2000)(ha:acc.length≤900000000):
 Calls Tryz.prog 110 #[v,.pointer (some ⟨b3,0,none⟩)] W (WrQ w1 b3 (acc++wl l)):=by
 have HL:=jH hl
 have HVB:Hid (∀ b,v.ownBlock=some b→b≠b3):=hvb
 have HP:Hid (∀ t∈l,t.2≤2000):=hp
 have HA:Hid (acc.length≤900000000):=ha
 obtain⟨va,vc,rfl,_,_⟩:=hl.shape
 obtain⟨n,hnl⟩:∃ n,n=l.length:=⟨_,rfl⟩
 have HNl:=jH hnl
 rw[← hnl] at HL HVB hn ⊢
 have H2:=two_calls (n:=n) S.out.row (by omega) (by omega)
 have c3:W.cell? ⟨b3,0,none⟩=some ov:=by rw[jB S.out.box];rfl
 clear hl hp ha hnl hvb
 go_enter Tryz.func110,Tryz.ntmps110
 go_wp2_with fail
 refine H2.mono ?_
 rintro e w2 ⟨v2,rfl,hr2,hg2⟩
 obtain⟨c2,f2,hob⟩:=S.out.store hr2.out hg2.out
 obtain⟨g2,p2,hv2⟩:=hr2.out.form (by simp[yb])
 obtain⟨N2,hN2⟩:∃ N2,N2=(acc++tw n).length:=⟨_,rfl⟩
 rw[← hN2] at hv2
 subst hv2
 have S0:Hid (OB w1 b3 (acc++(tw n++(l.take 0).flatMap fun t=>sb t.1::tw t.2)) (.slice (some ⟨g2,0,none⟩) N2 p2) (w2.setCell ⟨b3,0,none⟩ (.slice (some ⟨g2,0,none⟩) N2 p2))):=by
  show OB _ _ _ _ _
  simpa using hob
 clear H2 hr2 hg2 hob c3 S hN2
 go_wp2_with fail
 go_loopg [12] n (fun g1 vi wr=>∃ (k:Nat) (ov:Value),vi=.int .i64 k∧k≤n∧n - k≤g1∧Hid (OB w1 b3 (acc++(tw n++(l.take k).flatMap fun t=>sb t.1::tw t.2)) ov wr))
 case atStart=>exact⟨0,_,rfl,by omega,by omega,S0⟩
 case round =>
  clear S0 c2 f2
  obtain⟨k,ov,rfl,hkn,hg,HS⟩:=hrel
  by_cases hk:k<n
  ·have hkz:(k:Int)<(n:Int):=by omega
   have hk0:(0:Int)≤(k:Int):=Int.natCast_nonneg k
   have hkw:IntKind.i64.wrap ((k:Int)+1)=(k:Int)+1:=IntWalk.i64_in _ (by omega)
   obtain⟨t,ht⟩:∃ t,l[k]? = some t:=⟨_,jG (by rw[← HNl.out];exact hk)⟩
   have htp:=HP.out t (jM ht)
   have hrw:TRow wr (.slice va n vc) l:=jJ HL.out fun b e=>HS.out.fr.block b (jP HL.out e) (by
    have:=HVB.out b e
    simpa using this)
   obtain⟨_,_,ea,_,sa⟩:=hrw.shape
   obtain⟨ga,hga,cx0,cx1⟩:=sa k t ht
   obtain⟨q1,q2,q3⟩:=Value.slice.inj ea
   subst hga
   subst q1
   clear q2 q3 ea sa hrw
   obtain⟨L,hL⟩:∃ L,L=acc++(tw n++(l.take k).flatMap fun t=>sb t.1::tw t.2):=⟨_,rfl⟩
   have HLe:Hid (acc++(tw n++(l.take (k+1)).flatMap fun t=>sb t.1::tw t.2)=L++[sb t.1]++tw t.2):=by
    show _=_
    rw[hL,j8 ht,List.flatMap_append]
    simp[List.append_assoc]
   have hLl:L.length≤900002000:=by
    have key:∀ m:List PT,(m.flatMap fun t=>sb t.1::tw t.2).length=3*m.length:=by
     intro m
     induction m with
     | nil=>rfl
     | cons u m ih=>simp only[List.flatMap_cons,List.length_append,List.length_cons,yb,ih];omega
    rw[hL,List.length_append,List.length_append,key,List.length_take,yb]
    have:=HA.out
    omega
   rw[← hL] at HS
   obtain⟨sx,a⟩:=t
   dsimp only at cx0 cx1 htp HLe
   have hgl:ga<wr.heap.size:=jg cx0
   have hgs:ga≠wr.heap.size:=by omega
   have HSA:=jH (HS.out.below (w':=(wr.alloc (.cells #[.bool sx,.int .i64 (a:Nat)] 154))) ((Below.refl _ _).alloc (jR _) _))
   have hcb:((wr.alloc (.cells #[.bool sx,.int .i64 (a:Nat)] 154))).cell? ⟨b3,0,none⟩=some ov:=by rw[jB HSA.out.box];rfl
   have e154:((wr.alloc (.cells #[.bool sx,.int .i64 (a:Nat)] 154))).heap[wr.heap.size]? = some (.cells #[.bool sx,.int .i64 (a:Nat)] 154 (0,0)):=jD wr _
   have E154:=jH e154
   have HT:=jH ht
   have hbA:∀ o,((wr.alloc (.cells #[.bool sx,.int .i64 (a:Nat)] 154)).alloc o).cell? ⟨b3,0,none⟩=some ov:=fun o=>by rw[jB ((jE _ _ (jA HSA.out.box).1).trans HSA.out.box)];rfl
   have hlb:L.length+1≤1099511627776:=by omega
   clear hL ht e154
   cases sx
   ·
    go_wp2_with fail
    go_region_law (first
     | (refine step_B1 rfl (.tmp 18) (.tmp 20) rfl ov L rfl (World.ownsRow.alloc HSA.out.row _) _ (sb false) rfl 0 rfl (j7 (w:=wr.alloc (.cells #[.bool false,.int .i64 (a:Nat)] 154)) (o:=.cells #[.int .u8 0] 5) (by simp)) hlb _ rfl ?_; intro g cap w7 I7 G7 A7 L7
        have HG7:=jH (Gb.at (W:=wr.alloc (.cells #[.bool false,.int .i64 (a:Nat)] 154)) (o:=.cells #[.int .u8 0] 5) (n:=L.length+1) (cap:=cap) ⟨G7.os,G7.tape,G7.output,G7.size,G7.block⟩ rfl A7)
        have h154:=(HG7.out.fr.block _ (by simp) (fun e=>by
         have e':ov.ownBlock=some wr.heap.size:=by simpa using e
         have:=jP HS.out.row e'; omega)).trans E154.out
        have c154:w7.cell? ⟨wr.heap.size,1,none⟩=some (.int .i64 (a:Nat)):=by rw[jB h154];rfl
        have H2b:=two_calls (n:=a) (W:=w7) (v:=.slice (some ⟨g,0,none⟩) (L.length+1) cap) (l:=L++[sb false]) I7 (by omega) (by simp; omega)
        clear I7 G7 A7 L7 h154)
     | (go_simp; go_at_call 108; refine H2b.mono ?_; rintro z w8 ⟨v8,rfl,hr8,hg8⟩
        obtain⟨c8,f8,hob⟩:=HSA.out.store hr8.out (HG7.out.trans hg8.out)
        obtain⟨g8,p8,hv8⟩:=hr8.out.form (by simp[yb])
        obtain⟨N8,hN8⟩:∃ N8,N8=(L++[sb false]++tw a).length:=⟨_,rfl⟩
        rw[← hN8] at hv8
        subst hv8
        have HOb:=jH hob
        clear hr8 hg8 hob hN8))
    all_goals
     clear H2b HG7 c154 c8 f8 hbA hcb cx0 cx1
     go_wp2_with fail
     go_roundg (n - (k+1))
     case measure=>omega
     case rel=>exact⟨k+1,_,by go_num,by omega,by omega,by show OB _ _ _ _ _; rw[HLe.out];exact HOb.out⟩
   ·
    go_wp2_with fail
    go_region_law (first
     | (refine step_B1 rfl (.tmp 18) (.tmp 20) rfl ov L rfl (World.ownsRow.alloc HSA.out.row _) _ (sb true) rfl 1 rfl (j7 (w:=wr.alloc (.cells #[.bool true,.int .i64 (a:Nat)] 154)) (o:=.cells #[.int .u8 1] 5) (by simp)) hlb _ rfl ?_; intro g cap w7 I7 G7 A7 L7
        have HG7:=jH (Gb.at (W:=wr.alloc (.cells #[.bool true,.int .i64 (a:Nat)] 154)) (o:=.cells #[.int .u8 1] 5) (n:=L.length+1) (cap:=cap) ⟨G7.os,G7.tape,G7.output,G7.size,G7.block⟩ rfl A7)
        have h154:=(HG7.out.fr.block _ (by simp) (fun e=>by
         have e':ov.ownBlock=some wr.heap.size:=by simpa using e
         have:=jP HS.out.row e'; omega)).trans E154.out
        have c154:w7.cell? ⟨wr.heap.size,1,none⟩=some (.int .i64 (a:Nat)):=by rw[jB h154];rfl
        have H2b:=two_calls (n:=a) (W:=w7) (v:=.slice (some ⟨g,0,none⟩) (L.length+1) cap) (l:=L++[sb true]) I7 (by omega) (by simp; omega)
        clear I7 G7 A7 L7 h154)
     | (go_simp; go_at_call 108; refine H2b.mono ?_; rintro z w8 ⟨v8,rfl,hr8,hg8⟩
        obtain⟨c8,f8,hob⟩:=HSA.out.store hr8.out (HG7.out.trans hg8.out)
        obtain⟨g8,p8,hv8⟩:=hr8.out.form (by simp[yb])
        obtain⟨N8,hN8⟩:∃ N8,N8=(L++[sb true]++tw a).length:=⟨_,rfl⟩
        rw[← hN8] at hv8
        subst hv8
        have HOb:=jH hob
        clear hr8 hg8 hob hN8))
    all_goals
     clear H2b HG7 c154 c8 f8 hbA hcb cx0 cx1
     go_wp2_with fail
     go_roundg (n - (k+1))
     case measure=>omega
     case rel=>exact⟨k+1,_,by go_num,by omega,by omega,by show OB _ _ _ _ _; rw[HLe.out];exact HOb.out⟩
  ·have hkz:¬ ((k:Int)<(n:Int)):=by omega
   go_wp2_with fail
   go_end0
   refine⟨ov,rfl,?_⟩
   have h:=HS.out
   rw[List.take_of_length_le (by have:=HNl.out; omega),HNl.out] at h
   exact h
theorem wl_len (l:List PT): (wl l).length=2+3*l.length:=by
 have key:∀ m:List PT,(m.flatMap fun t=>sb t.1::tw t.2).length=3*m.length:=by
  intro m
  induction m with
  | nil=>rfl
  | cons u m ih=>simp only[List.flatMap_cons,List.length_append,List.length_cons,yb,ih];omega
 unfold wl
 rw[List.length_append,key,yb]
theorem atPl_bd (l:List Nat)(x:Int): ∀ t∈atPl l x,t.2≤l.length:=fun t ht=>by
 obtain⟨u,_,rfl⟩:=List.mem_map.1 ht
 exact List.idxOf_le_length
theorem flat_bd (hp:∀ p∈Sr.parts x,(form ((p:Nat):Int)).length≤300)(k:Nat): (((Sr.parts x).take k).flatMap fun (p:Nat)=>wl (atPl (Sr.parts x) (p:Int))).length≤902*k:=by
 induction k with
 | zero=>simp
 | succ k ih =>
   rcases Nat.lt_or_ge k (Sr.parts x).length with h | h
   ·rw[List.take_add_one,jG h,List.flatMap_append,List.length_append]
    have h1:=hp _ (List.getElem_mem h)
    simp only[Option.toList_some,List.flatMap_cons,List.flatMap_nil,List.append_nil,wl_len]
    have:(atPl (Sr.parts x) ((Sr.parts x)[k]:Int)).length≤300:=by simpa [atPl] using h1
    omega
   ·rw[List.take_of_length_le (by omega)] at ih ⊢
    omega
theorem Weight_calls {W:World}(hx:IsN W v x): Calls Tryz.prog 109 #[v] W fun e W'=>e=.returned (.int .i64 ((Sr.parts x).length+1:Nat))∧Hid (Below W.heap.size W W'):=by
 obtain⟨q,rfl⟩:=hx.ptr
 have hb:=hx.1.2.2.1
 obtain⟨pv,sv,fl,HR0⟩:=hx.get'
 have HR:Hid (∀ w',Below W.heap.size W w'→Rows w' (.agg #[.pointer q]) x pv sv fl):=HR0
 obtain⟨n,hn⟩:∃ n,n=(Sr.parts x).length:=⟨_,rfl⟩
 obtain⟨pa,pc,hpv⟩:∃ pa pc,pv=.slice pa (Sr.parts x).length pc:=by
  obtain⟨_,⟨q1,q2⟩ | ⟨g,cap,cur,q1,_⟩⟩:=(HR0 W (Below.refl _ _)).prow
  ·exact⟨none,0,by rw[q1,q2]⟩
  ·exact⟨_,cap,q1⟩
 rw[← hn] at hpv hb ⊢
 subst hpv
 have hs:=fun w' hb=>(HR.out w' hb).parts
 have HB:Hid (Below W.heap.size W (W.alloc (.cells #[.pointer q] 26))):=(Below.refl _ _).alloc (jR _) _
 have hw:IntKind.i64.wrap ((n:Int)+1)=(n:Int)+1:=IntWalk.i64_in _ (by omega)
 clear HR0 hx hn
 go_enter Tryz.func109,Tryz.ntmps109
 go_wp2_with fail
 refine (hs _ HB.out).mono ?_
 rintro e w1 ⟨rfl,o,rfl⟩
 clear hs
 go_wp2_with fail
 go_ret
 exact⟨by go_num,HB.out.alloc (by simp) o⟩
def BtQ (x:Int)(W:World)(e:Ending)(W':World): Prop:=∃ v',e=.returned v'∧Hid (BRow W' v' (nbytes x))∧Hid (Below W.heap.size W W')∧Hid (∀ b,v'.ownBlock=some b→W.heap.size≤b)
theorem Bytes_calls {W:World}(hx:IsN W v x): Calls Tryz.prog 69 #[v] W (BtQ x W):=by
 obtain⟨q,rfl⟩:=hx.ptr
 have HX:=jH hx
 have hb:=hx.1.2.2.1
 obtain⟨pv,sv,fl,HR0⟩:=hx.get'
 have HR:Hid (∀ w',Below W.heap.size W w'→Rows w' (.agg #[.pointer q]) x pv sv fl):=HR0
 obtain⟨n,hn⟩:∃ n,n=(Sr.parts x).length:=⟨_,rfl⟩
 obtain⟨pa,pc,hpv⟩:∃ pa pc,pv=.slice pa (Sr.parts x).length pc:=by
  obtain⟨_,⟨q1,q2⟩ | ⟨g,cap,cur,q1,_⟩⟩:=(HR0 W (Below.refl _ _)).prow
  ·exact⟨none,0,by rw[q1,q2]⟩
  ·exact⟨_,cap,q1⟩
 have HNp:=jH hn
 rw[← hn] at hpv hb
 subst hpv
 have HB0:Hid (Below W.heap.size W (W.alloc (.cells #[.pointer q] 26))):=(Below.refl _ _).alloc (jR _) _
 have HWt:=Weight_calls (HX.out.below HB0.out)
 rw[← hn] at HWt
 have HXq:Hid ((W.alloc (.cells #[.pointer q] 26)).heap[W.heap.size]? = some (.cells #[.pointer q] 26 (0,0))):=jD W _
 clear HR0 hx hn
 go_enter Tryz.func69,Tryz.ntmps69
 go_wp2_with fail
 refine HWt.mono ?_
 rintro e w1 ⟨rfl,hb1⟩
 have HB1:=jH (Below.trans' HB0.out hb1.out)
 have HX1:=jH (Below.here hb1.out HXq.out)
 have H2:=two_calls (W:=w1) (v:=.slice none 0 0) (l:=[]) (n:=n+1) ⟨rfl,.inl ⟨rfl,rfl⟩⟩ (by omega) (by simp)
 clear HWt hb1
 go_wp2_with fail
 refine H2.mono ?_
 rintro e w2 ⟨v2,rfl,hr2,hg2⟩
 obtain⟨g2,p2,hv2⟩:=hr2.out.form (by simp[yb])
 have hN2:(([]:List UInt8)++tw (n+1)).length=2:=rfl
 rw[hN2] at hv2
 subst hv2
 have HB2:Hid (Below W.heap.size W w2):=qL (F:=[]) HB1.out (by simp) hg2.out.fr
 have HX2:Hid (w2.heap[W.heap.size]? = some (.cells #[.pointer q] 26 (0,0))):=by
  have hlt:=(jA HX1.out).1
  exact (hg2.out.fr.block _ hlt (by simp[Value.ownBlock])).trans HX1.out
 have HR2:=jH hr2.out
 have HB12:Hid (Below w1.heap.size w1 w2):=⟨hg2.out.fr.os,hg2.out.fr.tape,hg2.out.fr.output,hg2.out.fr.size,fun b hb=>hg2.out.fr.block b hb (by simp[Value.ownBlock])⟩
 have c2:∀ o,(w2.alloc o).cell? ⟨W.heap.size,0,none⟩=some (.pointer q):=fun o=>by rw[jB ((jE _ _ (jA HX2.out).1).trans HX2.out)];rfl
 have HOw:Hid (∀ b,(Value.slice (some ⟨g2,0,none⟩) 2 p2).ownBlock=some b→w1.heap.size≤b):=fun b e=>by
  rcases hg2.out.own with h | h
  ·rw[h] at e; cases e
  ·exact h b e
 have HPt:=(HR.out _ (HB2.out.alloc HB2.out.size (.cells #[.slice (some ⟨g2,0,none⟩) 2 p2] 40))).parts
 clear H2 hr2 hg2 hN2
 go_wp2_with fail
 refine HPt.mono ?_
 rintro e w3 ⟨rfl,o3,rfl⟩
 clear HPt
 go_wp2_with fail
 obtain⟨w4,hw4⟩:∃ w4,w4=(w2.alloc (.cells #[.slice (some ⟨g2,0,none⟩) 2 p2] 40)).alloc o3:=⟨_,rfl⟩
 rw[← hw4]
 have HB4:Hid (Below W.heap.size W w4):=by show Below _ _ _; rw[hw4];exact (HB2.out.alloc HB2.out.size _).alloc (by have:=HB2.out.size; simp; omega) _
 have HX4:Hid (w4.heap[W.heap.size]? = some (.cells #[.pointer q] 26 (0,0))):=by
  have hlt:=(jA HX2.out).1
  show _=_; rw[hw4,jE _ _ (by simp; omega),jE _ _ hlt];exact HX2.out
 have hz4:w4.heap.size=w2.heap.size+2:=by rw[hw4];simp
 have HRws:=jH (HR.out w1 HB1.out)
 have hz12:w1.heap.size≤w2.heap.size:=HB12.out.size
 have S0:Hid (OB w1 w2.heap.size (tw (n+1)++((Sr.parts x).take 0).flatMap fun (p:Nat)=>wl (atPl (Sr.parts x) (p:Int))) (.slice (some ⟨g2,0,none⟩) 2 p2) w4):=by
  refine⟨Fr.of_below ?_,?_,?_,HOw.out⟩
  ·rw[hw4];exact (HB12.out.alloc HB12.out.size _).alloc (by simp; omega) _
  ·rw[hw4,jE _ _ (by simp)];exact jD w2 _
  ·have h:=World.ownsRow.alloc (World.ownsRow.alloc HR2.out (.cells #[.slice (some ⟨g2,0,none⟩) 2 p2] 40)) o3
   rw[← hw4] at h
   simpa [BRow] using h
 have hWlt:W.heap.size<w1.heap.size:=(jA HX1.out).1
 clear hw4 c2 HR2
 go_loopg [14] n (fun g1 vi wr=>∃ (k:Nat) (ov:Value),vi=.int .i64 k∧k≤n∧n - k≤g1∧Hid (OB w1 w2.heap.size (tw (n+1)++((Sr.parts x).take k).flatMap fun (p:Nat)=>wl (atPl (Sr.parts x) (p:Int))) ov wr))
 case atStart=>exact⟨0,_,rfl,by omega,by omega,S0⟩
 case round =>
  clear S0
  obtain⟨k,ov,rfl,hkn,hg,HS⟩:=hrel
  have hfb:=flat_bd (x:=x) HX.out.1.2.1 k
  have keep:∀ b,b<w1.heap.size→wr.heap[b]? = w1.heap[b]?:=fun b hb=>HS.out.fr.block b hb (by simp; omega)
  have hacc:(tw (n+1)++((Sr.parts x).take k).flatMap fun (p:Nat)=>wl (atPl (Sr.parts x) (p:Int))).length≤900000000:=by rw[List.length_append,yb];omega
  by_cases hk:k<n
  ·have hkz:(k:Int)<(n:Int):=by omega
   have hk0:(0:Int)≤(k:Int):=Int.natCast_nonneg k
   have hkw:IntKind.i64.wrap ((k:Int)+1)=(k:Int)+1:=IntWalk.i64_in _ (by omega)
   obtain⟨p,hp⟩:∃ p,(Sr.parts x)[k]? = some p:=⟨_,jG (by rw[← HNp.out];exact hk)⟩
   obtain⟨u,hu,hru⟩:=HRws.out.rows k p hp
   obtain⟨gp,cp,heq,cq⟩:=qS (jJ (W':=wr) HRws.out.prow fun b e=>keep b (jP HRws.out.prow e)) hu
   obtain⟨e1,e2,e3⟩:=Value.slice.inj heq
   subst e1
   clear e2 e3 heq
   have HWr:=write_calls HS hru (fun b e=>by have:=jP hru e; omega) (by have:=HX.out.1.2.1 p (jM hp);simpa [atPl] using this) (fun t ht=>by have:=atPl_bd _ _ t ht; have:=HNp.out; omega) hacc
   have HP:=jH hp
   clear hp hu hru keep hacc hfb
   go_wp2_with fail
   refine HWr.mono ?_
   rintro e w5 ⟨ov5,rfl,hob⟩
   have HNx:Hid (OB w1 w2.heap.size (tw (n+1)++((Sr.parts x).take (k+1)).flatMap fun (p:Nat)=>wl (atPl (Sr.parts x) (p:Int))) ov5 w5):=by
    show OB _ _ _ _ _
    rw[xJ HP.out,List.flatMap_append,← List.append_assoc]
    simpa using hob.out
   clear HWr hob cq
   go_wp2_with fail
   go_roundg (n - (k+1))
   case measure=>omega
   case rel=>exact⟨k+1,ov5,by go_num,by omega,by omega,HNx⟩
  ·have hkz:¬ ((k:Int)<(n:Int)):=by omega
   have hk2:(Sr.parts x).take k=Sr.parts x:=List.take_of_length_le (by have:=HNp.out; omega)
   have hXr:wr.heap[W.heap.size]? = some (.cells #[.pointer q] 26 (0,0)):=(keep _ hWlt).trans HX1.out
   have cr:wr.cell? ⟨W.heap.size,0,none⟩=some (.pointer q):=by rw[jB hXr];rfl
   have hlow:Below W.heap.size W wr:=qL (F:=[w2.heap.size]) HB1.out (by intro b hb; simp at hb; omega) HS.out.fr
   have hself:=(HR.out wr hlow).self
   have HWr:=fun (o:Obj)=>write_calls (jH (HS.out.below ((Below.refl wr.heap.size wr).alloc (jR _) o))) HRws.out.srow (fun b e=>by have:=jP HRws.out.srow e; omega) (by have:=HX.out.1.1; simpa [atPl] using this) (fun t ht=>by have:=atPl_bd _ _ t ht; have:=HNp.out; omega) hacc
   have HE:Hid ((tw (n+1)++((Sr.parts x).take k).flatMap fun (p:Nat)=>wl (atPl (Sr.parts x) (p:Int)))++wl (atPl (Sr.parts x) x)=nbytes x):=by
    show _=_
    rw[hk2];unfold nbytes; rw[← HNp.out]
   clear hk2 hXr hlow keep hacc hfb
   go_wp2_with fail
   refine hself.mono ?_
   rintro e w5 ⟨rfl,o5,rfl⟩
   clear hself
   go_wp2_with fail
   refine (HWr o5).mono ?_
   rintro e w6 ⟨ov6,rfl,hob⟩
   have c6:w6.cell? ⟨w2.heap.size,0,none⟩=some ov6:=by rw[jB hob.out.box];rfl
   clear HWr cr
   go_wp2_with fail
   go_ret
   refine⟨ov6,rfl,?_,qL (F:=[w2.heap.size]) HB1.out (by intro b hb; simp at hb; omega) hob.out.fr,fun b e=>by have:=hob.out.own b e; omega⟩
   have h:=hob.out.row
   rw[HE.out] at h
   exact h
end
end Sr
