/- Texts of this claim, joined: RTrW. -/
import Derived.Test.YtabafgphmbdpgaaGreatDoorTd1
import Derived.Test.YtabafgphmbdpgaaGreatDoorTd32
import Derived.Test.YtabafgphmbdpgaaGreatDoorTd33
set_option maxHeartbeats 8000000
set_option maxRecDepth 100000
namespace Sr
open Go Go.Proofs Go.RowKit Go.Maps Go.WideMaps
section
def uB (oc:List (Nat×Int)×Nat×E3×Int): Bool:=decide (oc.2.2.2=0)&&(decide (oc.2.1=0)&&decide (oc.2.2.1=Zero))
theorem unitU {W:World}{s:ByteArray}(hs:s.size≤9223372036854775807): Calls Tryz.prog 18 #[.string s] W fun e W'=>e=.returned (.tuple #[.bool (uB (outc s.data.toList)),.int .i64 (outc s.data.toList).2.2.2])∧Hid (Below W.heap.size W W'):=by
 refine (Unit_any hs).mono ?_
 rintro e W' ⟨hb,⟨h1,rfl⟩ | ⟨h1,⟨st,o,G,h2,rfl⟩ | ⟨h2,rfl⟩⟩⟩
 ·rw[outc_bad h1];exact⟨rfl,hb⟩
 ·rw[outc_ok h1 h2]
  refine⟨?_,hb⟩
  have:unitE o G=uB (st,o.length,endE o G,0):=by
   unfold unitE uB
   cases o <;>simp
  rw[this]
 ·rw[outc_full h1 h2];exact⟨rfl,hb⟩
theorem three_zero {vs:List Int}(hw:WV vs){x:E3}{eu ev em:Nat}(h:AtE vs x eu ev em): (decide (eu=0)&&decide (ev=0)&&decide (em=0))=decide (x=Zero):=by
 rw[Bool.eq_iff_iff,Bool.and_eq_true,Bool.and_eq_true,decide_eq_true_eq,decide_eq_true_eq,decide_eq_true_eq,decide_eq_true_eq,hw.same h.u hw.zero,hw.same h.v hw.zero,hw.same h.m hw.zero,E3.eq_iff]
 constructor
 ·rintro⟨⟨a,b⟩,c⟩;exact⟨a,b,c⟩
 ·rintro⟨a,b,c⟩;exact⟨⟨a,b⟩,c⟩
variable {B0:Nat} {w:World}
theorem StRow.len {sa:Option Addr}{sn sc:Nat}{st:List (Nat×Int)}(h:StRow B0 w (.slice sa sn sc) st): sn=st.length:=by
 obtain⟨vs,_,h2,_⟩:=h.row
 obtain⟨a,c,e⟩:=ja h2
 cases e; rfl
theorem stc_get:∀ {st:List (Nat×Int)} {vs:List Value} {k:Nat} {t:Nat×Int} {u:Value},st[k]? = some t→vs[k]? = some u→(stc st vs)[k*2]? = some (.int .i64 (t.1:Nat))∧(stc st vs)[k*2+1]? = some u
 | [],_,_,_,_,h,_=>by simp at h
 | _::_,[],_,_,_,_,h=>by simp at h
 | s::st,v::vs,0,t,u,h1,h2=>by simp at h1 h2; subst h1 h2; exact⟨rfl,rfl⟩
 | s::st,v::vs,k+1,t,u,h1,h2=>by
   have:=stc_get (st:=st) (vs:=vs) (k:=k) (by simpa using h1) (by simpa using h2)
   rw[show (k+1)*2=k*2+1+1 by omega]
   exact this
theorem StRow.bnd {v:Value}{st:List (Nat×Int)}(h:StRow B0 w v st): st.length≤9223372036854775807:=by
 obtain⟨vs,_,⟨_,⟨_,h2⟩ | ⟨g,cap,cur,_,_,_,h5,h6,_,_⟩⟩,_⟩:=h.row
 ·omega
 ·simp only[maxLen] at h6; omega
theorem StRow.at {sa:Option Addr}{sn sc:Nat}{st:List (Nat×Int)}(h:StRow B0 w (.slice sa sn sc) st){k:Nat}{t:Nat×Int}(hk:st[k]? = some t):
 ∃ (g:Nat) (ua:Option Addr) (uc:Nat),sa=some ⟨g,0,none⟩∧w.cell? ⟨g,k*2,none⟩=some (.int .i64 (t.1:Nat))∧w.cell? ⟨g,k*2+1,none⟩=some (.slice ua (nbytes t.2).length uc)∧BRow w (.slice ua (nbytes t.2).length uc) (nbytes t.2):=by
 obtain⟨vs,h1,h2,h3⟩:=h.row
 have hlt:=(jL hk).1
 obtain⟨u,hu⟩:∃ u,vs[k]? = some u:=⟨_,jG (by omega)⟩
 obtain⟨hb,_⟩:=h3 k u t hu hk
 obtain⟨ua,uc,rfl⟩:=ja hb
 obtain⟨g,cap,e,_,_⟩:=zr h2 (by omega)
 obtain⟨e1,-,-⟩:=Value.slice.inj e
 subst e1
 have hc:(stc st vs)[k*2]? = some (.int .i64 (t.1:Nat))∧(stc st vs)[k*2+1]? = some (.slice ua (nbytes t.2).length uc):=stc_get hk hu
 exact⟨g,ua,uc,rfl,zx h2 hc.1,zx h2 hc.2,hb⟩
theorem traces_calls {W:World}{s:ByteArray}(hs:s.size≤9223372036854775807): Calls Tryz.prog 3 #[.string s] W fun e W'=>e=.returned (.bool true)∧Hid (Below W.heap.size W W'):=by
 by_cases hz:s.size≤130∨400<s.size
 ·have hT:=trU (W:=W) hs
  have HUn:=jH (fun w=>unitU (W:=w) hs)
  have HRt:=jH (fun (C:List Int) (w:World) (p:Nat) (fv:Value) (fl:List Value) (vs:List Int) (h:RW C w p fv fl vs) (hC:C.length≤1000000000)=>rtrace_calls h hC hs hz)
  obtain⟨oc,hoc⟩:∃ oc,oc=outc s.data.toList:=⟨_,rfl⟩
  rw[← hoc] at hT HUn HRt
  obtain⟨st,left,x,er⟩:=oc
  clear hoc
  go_enter Tryz.func3,Tryz.ntmps3
  go_upto_region 1 with fail
  go_cut [19] from 12 to 19 (fun v19 wq=>v19=.bool false∧wq=W)
  case first =>
   by_cases h130:130<s.size
   ·have q2:decide ((130:Int)<(s.size:Int))=true:=by rw[decide_eq_true_eq];omega
    have q3:decide ((s.size:Int)≤400)=false:=by rw[decide_eq_false_iff_not];omega
    go_wp2_with fail
    go_meet
    case rel=>exact⟨rfl,rfl⟩
   ·have q2:decide ((130:Int)<(s.size:Int))=false:=by rw[decide_eq_false_iff_not];omega
    go_wp2_with fail
    go_meet
    case rel=>exact⟨rfl,rfl⟩
  case rest =>
   obtain⟨rfl,rfl⟩:=hcut
   obtain⟨W,rfl⟩:∃ W,W=wc:=⟨_,rfl⟩
   go_wp2_with fail
   refine hT.mono ?_
   rintro e w1 ⟨sa,sn,sc,qu,qv,qm,rfl,hb1,hst1,hie1⟩
   dsimp only at hst1 hie1 ⊢
   have hsn:=hst1.out.len
   subst hsn
   have hN:=xM (w1.alloc (.cells #[.pointer qu,.pointer qv,.pointer qm] 28))
   have HB1:=jH hb1.out
   have HS1:=jH (hst1.out.below (jV w1 (.cells #[.pointer qu,.pointer qv,.pointer qm] 28)).out)
   have HE1:=jH (hie1.out.below (jV w1 (.cells #[.pointer qu,.pointer qv,.pointer qm] 28)).out)
   have HA1:=jH (jV w1 (.cells #[.pointer qu,.pointer qv,.pointer qm] 28)).out
   have HX1:Hid ((w1.alloc (.cells #[.pointer qu,.pointer qv,.pointer qm] 28)).heap[w1.heap.size]? = some (.cells #[.pointer qu,.pointer qv,.pointer qm] 28 (0,0))):=jD w1 _
   clear hT hb1 hst1 hie1
   go_wp2_with fail
   refine hN.mono ?_
   rintro e w2 ⟨p,fv,fl,rfl,hrw,hb2,hnew⟩
   have hR:=HRt.out [] w2 p fv fl [0] hrw.out (by decide)
   obtain⟨D5,hD5⟩:∃ D,D=w1.heap.size:=⟨_,rfl⟩
   rw[← hD5] at HX1
   rw[← hD5]
   have HS2:=jH (HS1.out.below hb2.out)
   have HE2:=jH (HE1.out.below hb2.out)
   have HB2:=jH (Below.trans' (Below.trans' HB1.out HA1.out) hb2.out)
   have HX2:=jH (Below.here hb2.out HX1.out)
   have HN2:Hid (∀ b∈rB p fv fl,(w1.alloc (.cells #[.pointer qu,.pointer qv,.pointer qm] 28)).heap.size≤b):=hnew.out
   have Hb2:=jH hb2.out
   have HWN:Hid (w1.heap.size<(w1.alloc (.cells #[.pointer qu,.pointer qv,.pointer qm] 28)).heap.size):=by show _<_; simp
   have HD5:=jH hD5
   have Hrw2:=jH hrw.out
   clear hN hrw hb2 hnew HS1 HE1 HX1 hD5
   go_wp2_with fail
   refine hR.mono ?_
   rintro e w3 ⟨ra,rn,rc,eu,ev,em,C3,fv3,fl3,vs3,rfl,hf3,hr3,ho3⟩
   dsimp only at ho3 ⊢
   have hrn:=ho3.out.1.len
   subst hrn
   have HK3:Hid (∀ (b:Nat) (c:Array Value) (T:TypeId),w2.heap[b]? = some (.cells c T (0,0))→(T≠105∧T≠137∧T≠139)→w3.heap[b]? = w2.heap[b]?):=fun b c T hb hT =>
    hf3.out.block b (jA hb).1 fun hm=>Hrw2.out.other hb hT.1 hT.2.1 hT.2.2 (rF_rB hm)
   have HB3:Hid (Below W.heap.size W w3):=jy HB2.out (jR _) (fun b hb=>by
    have h1:=HN2.out b (rF_rB hb)
    have h2:=HB1.out.size
    have h3:=HWN.out
    omega) hf3.out
   obtain⟨w4,hw4⟩:∃ w4,w3.alloc (.cells #[.slice ra st.length rc,.int .i64 (left:Nat),.int .i64 (eu:Nat),.int .i64 (ev:Nat),.int .i64 (em:Nat),.int .i64 er] 37)=w4:=⟨_,rfl⟩
   obtain⟨D8,hD8⟩:∃ D,w3.heap.size=D:=⟨_,rfl⟩
   have hbl4:Below w3.heap.size w3 w4:=by rw[← hw4];exact (jV w3 _).out
   have HR4:=jH (hr3.out.below hbl4)
   have HS4:Hid (StRow W.heap.size w4 (.slice sa st.length sc) st):=StRow.below (HS2.out.kept fun b c T hb _ ht=>HK3.out b c T hb (by rcases ht with rfl | rfl <;>decide)) hbl4
   have HT4:Hid (StRow w2.heap.size w4 (.slice ra st.length rc) st):=ho3.out.1.below hbl4
   have HE4:Hid (IsE w4 (.agg #[.pointer qu,.pointer qv,.pointer qm]) x):=by
    obtain⟨hu,hv,hm⟩:=IsE.parts (t:=(qu,qv,qm)) HE2.out
    have hk:∀ {v:Value} {z:Int},IsN w2 v z→IsN w4 v z:=fun h=>(h.kept fun b c T hb hT=>HK3.out b c T hb (by rcases hT with h | h | h <;>subst h <;>decide)).below hbl4
    exact⟨qu,qv,qm,rfl,hk hu,hk hv,hk hm⟩
   have HX4:Hid (w4.heap[D5]? = some (.cells #[.pointer qu,.pointer qv,.pointer qm] 28 (0,0))):=Below.here hbl4 ((HK3.out _ _ _ HX2.out (by decide)).trans HX2.out)
   have HY4:Hid (w4.heap[D8]? = some (.cells #[.slice ra st.length rc,.int .i64 (left:Nat),.int .i64 (eu:Nat),.int .i64 (ev:Nat),.int .i64 (em:Nat),.int .i64 er] 37 (0,0))):=by show _=_; rw[← hw4,← hD8];exact jD w3 _
   have HB4:Hid (Below W.heap.size W w4):=Below.trans' HB3.out hbl4
   have Ho3:=jH ho3.out.2.1
   clear hR hf3 hr3 ho3 hbl4
   have hL:=like_calls HR4.out HE4.out Ho3.out
   have c0:w4.cell? ⟨D5,0,none⟩=some (.pointer qu):=by rw[jB HX4.out];rfl
   have c1:w4.cell? ⟨D5,1,none⟩=some (.pointer qv):=by rw[jB HX4.out];rfl
   have c2:w4.cell? ⟨D5,2,none⟩=some (.pointer qm):=by rw[jB HX4.out];rfl
   have d0:w4.cell? ⟨D8,0,none⟩=some (.slice ra st.length rc):=by rw[jB HY4.out];rfl
   have d1:w4.cell? ⟨D8,1,none⟩=some (.int .i64 (left:Nat)):=by rw[jB HY4.out];rfl
   have d2:w4.cell? ⟨D8,2,none⟩=some (.int .i64 (eu:Nat)):=by rw[jB HY4.out];rfl
   have d3:w4.cell? ⟨D8,3,none⟩=some (.int .i64 (ev:Nat)):=by rw[jB HY4.out];rfl
   have d4:w4.cell? ⟨D8,4,none⟩=some (.int .i64 (em:Nat)):=by rw[jB HY4.out];rfl
   have d5:w4.cell? ⟨D8,5,none⟩=some (.int .i64 er):=by rw[jB HY4.out];rfl
   go_wp2_with fail
   refine hL.mono ?_
   rintro e w5 ⟨rfl,hb5⟩
   have HB5:=jH (Below.trans' HB4.out hb5.out)
   have HR5:=jH (HR4.out.below hb5.out)
   have HS5:=jH (HS4.out.below hb5.out)
   have HT5:=jH (HT4.out.below hb5.out)
   have HY5:=jH (Below.here hb5.out HY4.out)
   have hbn:=HS5.out.bnd
   clear hL hb5 c0 c1 c2 d0 d1 d2 d3 d4 d5
   go_wp2_with fail
   go_loopg [9] st.length (fun g1 v9 wr=>∃ k:Nat,v9=.int .i64 k∧k≤st.length∧st.length - k≤g1∧Hid (Below w5.heap.size w5 wr))
   case atStart=>exact⟨0,rfl,Nat.zero_le _,jR _,Below.refl _ _⟩
   case round =>
    obtain⟨k,rfl,hkn,hg1,HBr⟩:=hrel
    by_cases hk:k<st.length
    ·have hkz:(k:Int)<(st.length:Int):=by omega
     have hk0:(0:Int)≤(k:Int):=Int.natCast_nonneg k
     have hk1:((k:Int)).toNat=k:=by omega
     have hkw:IntKind.i64.wrap ((k:Int)+1)=(k:Int)+1:=IntWalk.i64_in _ (by omega)
     obtain⟨t,ht⟩:∃ t,st[k]? = some t:=⟨_,jG hk⟩
     obtain⟨g,ua,uc,hsa,s0,s1,hbr⟩:=(HS5.out.below HBr.out).at ht
     obtain⟨g',ua',uc',hra,s0',s1',hbr'⟩:=(HT5.out.below HBr.out).at ht
     subst hsa
     subst hra
     have d0:wr.cell? ⟨D8,0,none⟩=some (.slice (some ⟨g',0,none⟩) st.length rc):=by rw[jB (Below.here HBr.out HY5.out)];rfl
     have cv1:∀ n,(Go.convert 40 9 (.slice ua (nbytes t.2).length uc)).run Tryz.prog (wr.drewN n)=.ok (.string ⟨(nbytes t.2).toArray⟩) (wr.drewN n):=fun n=>zh hbr (W':=wr.drewN n) (fun _ _=>rfl)
     have cv2:∀ n,(Go.convert 40 9 (.slice ua' (nbytes t.2).length uc')).run Tryz.prog (wr.drewN n)=.ok (.string ⟨(nbytes t.2).toArray⟩) (wr.drewN n):=fun n=>zh hbr' (W':=wr.drewN n) (fun _ _=>rfl)
     clear hbr hbr' ht
     go_wp2_with fail
     go_quiet (fail)
     go_wp2_with fail
     go_roundg (st.length - (k+1))
     case measure=>omega
     case rel=>exact⟨k+1,by go_num,by omega,by omega,Below.trans' HBr.out (qp _ _).out⟩
    ·have hkz:¬ ((k:Int)<(st.length:Int)):=by omega
     have hkz2:decide ((k:Int)<(st.length:Int))=false:=by rw[decide_eq_false_iff_not];exact hkz
     have hU:=HUn.out wr
     clear hbn hg1 hkn hk
     go_wp2_with fail
     refine hU.mono ?_
     rintro e w6 ⟨rfl,hb6⟩
     dsimp only
     have hS:=jx w6
     have HB6:=jH (Below.trans' HBr.out hb6.out)
     clear hU hb6 hkz hkz2
     by_cases h0:er=0
     ·subst h0
      obtain⟨ub,hub⟩:∃ ub,uB (st,left,x,0)=ub:=⟨_,rfl⟩
      rw[hub]
      have Hub:Hid ((decide (left=0)&&(decide (eu=0)&&decide (ev=0)&&decide (em=0)))=ub):=by
       show _=_
       rw[← hub,three_zero HR5.out.wv Ho3.out];rfl
      clear hub
      go_wp2_with fail
      refine hS.mono ?_
      rintro e w7 ⟨rfl,hb7⟩
      have HB7:=jH (Below.trans' HB6.out hb7.out)
      have d0:w7.cell? ⟨D8,0,none⟩=some (.slice ra st.length rc):=by rw[jB (Below.here HB7.out HY5.out)];rfl
      have d1:w7.cell? ⟨D8,1,none⟩=some (.int .i64 (left:Nat)):=by rw[jB (Below.here HB7.out HY5.out)];rfl
      have d2:w7.cell? ⟨D8,2,none⟩=some (.int .i64 (eu:Nat)):=by rw[jB (Below.here HB7.out HY5.out)];rfl
      have d3:w7.cell? ⟨D8,3,none⟩=some (.int .i64 (ev:Nat)):=by rw[jB (Below.here HB7.out HY5.out)];rfl
      have d4:w7.cell? ⟨D8,4,none⟩=some (.int .i64 (em:Nat)):=by rw[jB (Below.here HB7.out HY5.out)];rfl
      have d5:w7.cell? ⟨D8,5,none⟩=some (.int .i64 0):=by rw[jB (Below.here HB7.out HY5.out)];rfl
      have hI:=risUnit_calls (W:=w7) (sa:=ra) (sn:=st.length) (sc:=rc) (left:=left) (eu:=eu) (ev:=ev) (em:=em) (er:=0)
      rw[Hub.out] at hI
      clear hS hb7
      go_wp2_with fail
      refine hI.mono ?_
      rintro e w8 ⟨rfl,hb8⟩
      have HB8:=jH (Below.trans' HB7.out hb8.out)
      clear hI hb8
      go_wp2_with fail
      go_ret
      exact⟨by first | rfl | simp,Below.trans' HB5.out HB8.out⟩
     ·have h1:decide (er=0)=false:=by simpa using h0
      have h2:(er==0)=false:=by simpa using h0
      have Hub:Hid (uB (st,left,x,er)=false):=by
       show _=_
       unfold uB; dsimp only; rw[h1,Bool.false_and]
      rw[Hub.out]
      go_wp2_with fail
      refine hS.mono ?_
      rintro e w7 ⟨rfl,hb7⟩
      have HB7:=jH (Below.trans' HB6.out hb7.out)
      clear hS hb7
      go_wp2_with fail
      go_ret
      exact⟨by first | rfl | simp,Below.trans' HB5.out HB7.out⟩
 ·have q2:decide ((130:Int)<(s.size:Int))=true:=by rw[decide_eq_true_eq];omega
  have q3:decide ((s.size:Int)≤400)=true:=by rw[decide_eq_true_eq];omega
  have hS:=jx W
  go_enter Tryz.func3,Tryz.ntmps3
  go_wp2_with fail
  refine hS.mono ?_
  rintro e w1 ⟨rfl,hb1⟩
  go_wp2_with fail
  go_ret
  exact⟨rfl,hb1⟩
end
end Sr
