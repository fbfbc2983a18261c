/- Texts of this claim, joined: RCk, RLike, RCkW. -/
import Derived.Test.YtabafgphmbdpgaaGreatDoorTe1
import Derived.Test.YtabafgphmbdpgaaGreatDoorTe28
import Derived.Test.YtabafgphmbdpgaaGreatDoorTe41
set_option maxHeartbeats 8000000
set_option maxRecDepth 100000
namespace Sr
open Go Go.Proofs Go.RowKit Go.Maps Go.WideMaps
structure RcS (W w:World)(B c D6 b p:Nat)(fv0 fv:Value)(fl0 fl:List Value)(vs0 vs:List Int)(full:Bool)(s:ByteArray)(gv:Value)(l:List N3)(G:List E3): Prop where
 rk:RK b W w c p fv0 fv fl0 fl vs0 vs full
 b0:w.heap[B]? = some (.cells #[.slice none 0 0,.int .i64 0,.int .i64 0,.int .i64 0,.int .i64 0,.int .i64 0] 37 (0,0))
 b6:w.heap[D6]? = some (.cells #[.string s,gv] 78 (0,0))
 pr:PR 0 w vs gv l G
 hB:W.heap.size≤B
 h6:W.heap.size≤D6
section
variable {W w w':World} {B c D6 b b' p:Nat} {fv0 fv fv':Value} {fl0 fl fl':List Value} {vs0 vs vs':List Int} {full full':Bool} {s:ByteArray} {gv:Value} {l:List N3} {G:List E3}
theorem RcS.call (h:RcS W w B c D6 b p fv0 fv fl0 fl vs0 vs full s gv l G)(k:RK b' w w' c p fv fv' fl fl' vs vs' full'): RcS W w' B c D6 b' p fv0 fv' fl0 fl' vs0 vs' full' s gv l G:={
 rk:=h.rk.trans k
 b0:=jd h.rk.rc k h.b0 (by decide) (by decide) (by decide)
 b6:=jd h.rk.rc k h.b6 (by decide) (by decide) (by decide)
 pr:=h.pr.rk h.rk.rc k
 hB:=h.hB,h6:=h.h6 }
theorem RcS.below (h:RcS W w B c D6 b p fv0 fv fl0 fl vs0 vs full s gv l G)(k:Below w.heap.size w w'): RcS W w' B c D6 b p fv0 fv fl0 fl vs0 vs full s gv l G:={
 rk:=h.rk.post k,b0:=Below.here k h.b0,b6:=Below.here k h.b6,pr:=h.pr.below k,hB:=h.hB,h6:=h.h6 }
theorem RcS.mono (h:RcS W w B c D6 b p fv0 fv fl0 fl vs0 vs full s gv l G)(hb:b≤b'): RcS W w B c D6 b' p fv0 fv fl0 fl vs0 vs full s gv l G:={
 rk:=h.rk.mono hb,b0:=h.b0,b6:=h.b6,pr:=h.pr,hB:=h.hB,h6:=h.h6 }
theorem RcS.set6 (h:RcS W w B c D6 b p fv0 fv fl0 fl vs0 vs full s gv l G){s':ByteArray}{gv':Value}{l':List N3}{G':List E3}(hp:PR 0 w vs gv' l' G'):
 RcS W ((w.setCell ⟨D6,0,none⟩ (.string s')).setCell ⟨D6,1,none⟩ gv') B c D6 b p fv0 fv fl0 fl vs0 vs full s' gv' l' G':=by
 obtain⟨f1,e1⟩:=h.rk.setT h.b6 (by decide) h.h6 0 (.string s')
 obtain⟨f2,e2⟩:=f1.setT e1 (by decide) h.h6 1 gv'
 have ke:∀ q:Nat,q≠D6→((w.setCell ⟨D6,0,none⟩ (.string s')).setCell ⟨D6,1,none⟩ gv').heap[q]? = w.heap[q]?:=fun q hq=>(jS _ _ _ _ hq).trans (jS _ _ _ _ hq)
 exact {
  rk:=f2
  b0:=(ke B (jI h.b0 h.b6 (by decide))).trans h.b0
  b6:=e2
  pr:=⟨qP hp.row fun q hq=>by
   obtain⟨cs,hc⟩:=jl hp.row hq
   exact ke q (jI hc h.b6 (by decide)),hp.at_,hp.hg⟩
  hB:=h.hB,h6:=h.h6 }
end
def RCkQ (oc:Nat×E3×Int)(W:World)(p:Nat)(fv:Value)(e:Ending)(W':World): Prop :=
 ∃ (eu ev em:Nat) (C':List Int) (fv':Value) (fl':List Value) (vs':List Int),e=.returned (.agg #[.slice none 0 0,.int .i64 (oc.1:Nat),.int .i64 (eu:Nat),.int .i64 (ev:Nat),.int .i64 (em:Nat),.int .i64 oc.2.2])∧Hid (Fr (rF p fv) W W')∧Hid (RW C' W' p fv' fl' vs')∧Hid (AtE vs' oc.2.1 eu ev em∧EOK oc.2.1)
theorem rcheck_calls {C:List Int}{W W0:World}{p:Nat}{fv:Value}{fl:List Value}{vs:List Int}(H:RW C W p fv fl vs)(hC:C.length≤1000000000){s:ByteArray}(hs:s.size≤9223372036854775807)(hz:s.size≤130∨400<s.size){v:Value}{S:List Stp}(hv:SIn W0 v S)(hSl:S.length≤1000)(hW0:Below W0.heap.size W0 W)(hN:∀ b∈rB p fv fl,W0.heap.size≤b):
 Calls Tryz.prog 32 #[.pointer (some ⟨p,0,none⟩),.string s,v] W (RCkQ (ckOut s.data.toList S) W p fv):=by
 obtain⟨W1,B,hW1,hB,HS1⟩:∃ W1 B,W.alloc (.cells #[.slice none 0 0,.int .i64 0,.int .i64 0,.int .i64 0,.int .i64 0,.int .i64 0] 37)=W1∧W.heap.size=B∧Hid (RW C W1 p fv fl vs∧Below W.heap.size W W1∧W1.heap[B]? = some (.cells #[.slice none 0 0,.int .i64 0,.int .i64 0,.int .i64 0,.int .i64 0,.int .i64 0] 37 (0,0))) :=
  ⟨_,_,rfl,rfl,H.below (jV W _).out,(jV W _).out,jD W _⟩
 have hI:=yU (W:=W1) hs (n:=400) (by decide)
 have HB0:=jH hB
 have HV:=jH hv
 have HW0:=jH hW0
 have HN:=jH hN
 have Hsl:=jH hSl
 obtain⟨sa,sc,rfl,-⟩:=hv
 obtain⟨sn,hsn⟩:∃ n,n=S.length:=⟨_,rfl⟩
 rw[← hsn] at HV
 rw[← hsn]
 have Hsn:=jH hsn
 have hwl:(isLt s.data.toList&&decide (s.size≤400))=isWordL s.data.toList:=by
  have hsz:s.data.toList.length=s.size:=by simp
  rw[Bool.eq_iff_iff,Bool.and_eq_true,decide_eq_true_eq,jf,hsz]
 rw[hwl] at hI
 obtain⟨tb,htb⟩:∃ tb,isWordL s.data.toList=tb:=⟨_,rfl⟩
 rw[htb] at hI
 have Htb:=jH htb
 clear H hW0 hN hSl hsn hwl htb
 go_enter Tryz.func32,Tryz.ntmps32
 go_wp2_with fail
 refine hI.mono ?_
 rintro e w2 ⟨rfl,hb2⟩
 have HS2:Hid (RW C w2 p fv fl vs∧Below W.heap.size W w2∧w2.heap[B]? = some (.cells #[.slice none 0 0,.int .i64 0,.int .i64 0,.int .i64 0,.int .i64 0,.int .i64 0] 37 (0,0))):=⟨HS1.out.1.below hb2.out,Below.trans' HS1.out.2.1 hb2.out,Below.here hb2.out HS1.out.2.2⟩
 have HhB:Hid (W.heap.size≤B):=by show _≤_; omega
 clear hI hb2
 cases tb with
 | false =>
   have q0:w2.cell? ⟨B,0,none⟩=some (.slice none 0 0):=by rw[jB HS2.out.2.2];rfl
   have q1:w2.cell? ⟨B,1,none⟩=some (.int .i64 0):=by rw[jB HS2.out.2.2];rfl
   have q2:w2.cell? ⟨B,2,none⟩=some (.int .i64 0):=by rw[jB HS2.out.2.2];rfl
   have q3:w2.cell? ⟨B,3,none⟩=some (.int .i64 0):=by rw[jB HS2.out.2.2];rfl
   have q4:w2.cell? ⟨B,4,none⟩=some (.int .i64 0):=by rw[jB HS2.out.2.2];rfl
   have q5:w2.cell? ⟨B,5,none⟩=some (.int .i64 0):=by rw[jB HS2.out.2.2];rfl
   have fB:=fun o=>jF HS2.out.2.2 o
   go_wp2_with fail
   refine bodyPost_ret (v:=.agg #[.slice none 0 0,.int .i64 0,.int .i64 0,.int .i64 0,.int .i64 0,.int .i64 2]) (by simp[results,Tryz.results32,go_sem,q0,q1,q2,q3,q4,q5]) rfl ?_
   have hoc:ckOut s.data.toList S=(0,Zero,2):=by unfold ckOut; rw[if_neg (by rw[Htb.out];decide)]
   rw[hoc]
   have hrw:=end6_rw HS2.out.1 HS2.out.2.2 (.slice none 0 0) (.int .i64 0) (.int .i64 0) (.int .i64 0) (.int .i64 0) (.int .i64 2)
   have hbl:=end6_fr (F:=rF p fv) (Fr.of_below HS2.out.2.1) HhB.out (.slice none 0 0) (.int .i64 0) (.int .i64 0) (.int .i64 0) (.int .i64 0) (.int .i64 2)
   exact⟨0,0,0,C,fv,fl,vs,rfl,hbl,hrw,⟨hrw.wv.zero,hrw.wv.zero,hrw.wv.zero⟩,EOK.zero⟩
 | true =>
   have hle:s.size≤130:=by
    have:=(jf.1 Htb.out).2
    have h2:s.data.toList.length=s.size:=by simp
    omega
   obtain⟨W3,hW3⟩:∃ W3,w2.alloc (.cells #[.pointer (some ⟨p,0,none⟩),.bool false] 75)=W3:=⟨_,rfl⟩
   obtain⟨c,hc⟩:∃ c,w2.heap.size=c:=⟨_,rfl⟩
   have HS3:Hid (RC 1000000000 W3 c p fv fl vs false∧Below w2.heap.size w2 W3):=by
    have hbl:Below w2.heap.size w2 W3:=by rw[← hW3];exact (jV w2 _).out
    exact⟨⟨⟨C,hC,HS2.out.1.below hbl⟩,by rw[← hW3,← hc];exact jD w2 _⟩,hbl⟩
   have hR:=rread_calls HS3.out.1 hle (jf.1 Htb.out).1 (by omega)
   have Hle:=jH hle
   clear hle
   go_wp2_with fail
   refine hR.mono ?_
   rintro e w4 ⟨s1,gv1,l1,fv1,fl1,vs1,rfl,hs1,hz1,hp1,hA1,hk1⟩
   obtain⟨ga1,gc1,hgv⟩:=ja hp1.out.row
   subst hgv
   obtain⟨n1,hn1⟩:∃ n,n=l1.length:=⟨_,rfl⟩
   rw[← hn1] at hp1
   rw[← hn1]
   clear hn1 hR
   have HEO:Hid (∀ x∈(readE s.data.toList).2,EOK x):=fun x hx=>by
    obtain⟨i,hi⟩:=List.getElem?_of_mem hx
    obtain⟨n,rfl,hn⟩:=hA1.out i x hi
    exact powA_eok (by have:=Hle.out; omega)
   have HLn:Hid ((readE s.data.toList).2.length=s1.size+1):=by
    have h:=z8 s.data.toList ([],[Zero]) rfl
    have h2:(readE s.data.toList).1.length=s1.size:=by rw[← hs1.out];simp
    show _=_
    rw[← h2];exact h
   have HLt:Hid (∀ x∈s1.data.toList,x=98∨x=66):=by
    show ∀ x∈s1.data.toList,_
    rw[hs1.out];exact xO (zQ.1 (jf.1 Htb.out).1)
   obtain⟨D6,hD6⟩:∃ D,w4.heap.size=D:=⟨_,rfl⟩
   obtain⟨W5,hW5⟩:∃ w,w4.alloc (.cells #[.string s1,.slice ga1 n1 gc1] 78)=w:=⟨_,rfl⟩
   have HS5:Hid (RcS W W5 B c D6 (1000000000+21000000000*(s.size - s1.size)) p fv fv1 fl fl1 vs vs1 false s1 (.slice ga1 n1 gc1) l1 (readE s.data.toList).2):=by
    show RcS _ _ _ _ _ _ _ _ _ _ _ _ _ _ _ _ _ _
    have hbl:Below w4.heap.size w4 W5:=by rw[← hW5];exact (jV w4 _).out
    have h3:=HS3.out
    have h23:=Below.trans' HS2.out.2.1 h3.2
    exact {
     rk:=(hk1.out.pre h23).post hbl
     b0:=Below.here hbl (jd h3.1 hk1.out (Below.here h3.2 HS2.out.2.2) (by decide) (by decide) (by decide))
     b6:=by rw[← hW5,← hD6];exact jD w4 _
     pr:=hp1.out.below hbl
     hB:=HhB.out
     h6:=by rw[← hD6];exact Nat.le_trans h23.size hk1.out.fr.size }
   have Hs1:=jH hs1.out
   have Hz1:=jH hz1.out
   have Hcw:Hid (W.heap.size≤c):=by show _≤_; rw[← hc];exact HS2.out.2.1.size
   clear hs1 hz1 hp1 hA1 hk1
   have c1:=HS5.out.rk.rc.c1
   go_wp2_with fail
   clear c1
   go_loopg [9] sn (fun g1 v9 wr=>∃ (k:Nat) (so:ByteArray) (ga:Option Addr) (n gc:Nat) (l:List N3) (G:List E3) (fv':Value) (fl':List Value) (vs':List Int),v9=.int .i64 k∧k≤sn∧sn - k≤g1∧so.size≤s.size∧Hid (G.length=so.size+1)∧Hid (∀ x∈so.data.toList,x=98∨x=66)∧Hid (∀ x∈G,EOK x) ∧
    Hid (RcS W wr B c D6 (1000000000+21000000000*(s.size - so.size)) p fv fv' fl fl' vs vs' false so (.slice ga n gc) l G)∧Hid (chkE (S.drop k) so.data.toList G=checkE s.data.toList S))
   case atStart=>exact⟨0,s1,ga1,n1,gc1,l1,_,fv1,fl1,vs1,rfl,Nat.zero_le _,jR _,Hz1.out,HLn,HLt,HEO,HS5,by show _=_; rw[List.drop_zero,Hs1.out];rfl⟩
   case round =>
    obtain⟨k,so,ga,n,gc,l,G,fv',fl',vs',rfl,hkn,hg,hss,HGl,HLe,HGo,HR,HCh⟩:=hrel
    have HBl:Hid (Below W0.heap.size W0 wr):=jy HW0.out (jR _) (fun b hb=>by
     rcases List.mem_cons.1 hb with rfl | hb
     ·exact Nat.le_trans HW0.out.size Hcw.out
     ·exact HN.out b (rF_rB hb)) HR.out.rk.fr
    by_cases hk:k<sn
    ·have hkz:(k:Int)<(sn:Int):=by omega
     have hk0:(0:Int)≤(k:Int):=Int.natCast_nonneg k
     have hk1:((k:Int)).toNat=k:=by omega
     have hkw:IntKind.i64.wrap ((k:Int)+1)=(k:Int)+1:=IntWalk.i64_in _ (by have:=Hsn.out; have:=Hsl.out; omega)
     obtain⟨t,ht⟩:∃ t,S[k]? = some t:=⟨_,jG (by have:=Hsn.out; omega)⟩
     obtain⟨a',c',e0,hall⟩:=HV.out.below HBl.out
     obtain⟨ea,-,ec⟩:=Value.slice.inj e0
     subst ea
     subst ec
     obtain⟨⟨hr1,hr2⟩,g,off,ub,rfl,s0,s1',hbr⟩:=hall k t ht
     obtain⟨ta,tbs⟩:=t
     dsimp only at s0 hbr hr1 hr2
     have HCd:Hid (chkE ((ta,tbs)::S.drop (k+1)) so.data.toList G=checkE s.data.toList S):=by
      show _=_
      have hlt:k<S.length:=by have:=Hsn.out; omega
      rw[← HCh.out,List.drop_eq_getElem_cons hlt]
      congr 2
      exact ((jL ht).2).symm
     have y0:wr.cell? ⟨D6,0,none⟩=some (.string so):=by rw[jB HR.out.b6];rfl
     have y1:wr.cell? ⟨D6,1,none⟩=some (.slice ga n gc):=by rw[jB HR.out.b6];rfl
     have hP:=rpin_calls HR.out.rk.rc HR.out.pr HGl.out (by have:=Hle.out; omega) HLe.out ta
     rw[← pinI_R] at hP
     obtain⟨pb,hpb⟩:∃ pb,pinI so.data.toList G ta=pb:=⟨_,rfl⟩
     rw[hpb] at hP
     have Hpb:=jH hpb
     have Hbr:=jH hbr
     have Ht:=jH ht
     clear hall e0 ht hpb hbr HCh
     go_wp2_with fail
     refine hP.mono ?_
     rintro e w6 ⟨rfl,hb6⟩
     have HR6:=jH (HR.out.below hb6.out)
     clear hP y0 y1
     cases pb with
     | false =>
       have HEr:Hid (ckOut s.data.toList S=(0,Zero,1)):=ckOut_err Htb.out (by rw[← HCd.out,chkE_no Hpb.out])
       have q0:w6.cell? ⟨B,0,none⟩=some (.slice none 0 0):=by rw[jB HR6.out.b0];rfl
       have q1:w6.cell? ⟨B,1,none⟩=some (.int .i64 0):=by rw[jB HR6.out.b0];rfl
       have q2:w6.cell? ⟨B,2,none⟩=some (.int .i64 0):=by rw[jB HR6.out.b0];rfl
       have q3:w6.cell? ⟨B,3,none⟩=some (.int .i64 0):=by rw[jB HR6.out.b0];rfl
       have q4:w6.cell? ⟨B,4,none⟩=some (.int .i64 0):=by rw[jB HR6.out.b0];rfl
       have q5:w6.cell? ⟨B,5,none⟩=some (.int .i64 0):=by rw[jB HR6.out.b0];rfl
       have fB:=fun o=>jF HR6.out.b0 o
       go_wp2_with fail
       refine bodyPost_ret (v:=.agg #[.slice none 0 0,.int .i64 0,.int .i64 0,.int .i64 0,.int .i64 0,.int .i64 1]) (by simp[results,Tryz.results32,go_sem,q0,q1,q2,q3,q4,q5]) rfl ?_
       have hK:=HR6.out.rk.end6 HR6.out.b0 HR6.out.hB (.slice none 0 0) (.int .i64 0) (.int .i64 0) (.int .i64 0) (.int .i64 0) (.int .i64 1)
       obtain⟨Cx,-,hrw⟩:=hK.rc.rw
       rw[HEr.out]
       exact⟨0,0,0,Cx,_,_,_,rfl,hK.fr.drop_new Hcw.out,hrw,⟨hrw.wv.zero,hrw.wv.zero,hrw.wv.zero⟩,EOK.zero⟩
     | true =>
       obtain⟨i,rfl⟩:∃ i:Nat,ta=i:=by
        have h:=Hpb.out
        unfold pinI at h
        rw[Bool.and_eq_true,Bool.and_eq_true,decide_eq_true_eq] at h
        exact⟨ta.toNat,by omega⟩
       have HPi:Hid (pinR so.data.toList G (i:Nat)=true):=by show _=_; rw[← pinI_R];exact Hpb.out
       have hi:=(zg HPi.out).1
       have hpa:=(zg HPi.out).2
       have hn:i+1<so.size:=by simpa using hi
       have i7:i<so.size:=by omega
       obtain⟨g1,hgg⟩:∃ g,G[i+1]? = some g:=⟨_,jG (by have:=HGl.out; omega)⟩
       have hgd:so.data.toList.getD i 0=so[i]:=ba_get i7
       have hx1:=HLe.out so[i] (by rw[← hgd,List.getD_eq_getElem?_getD,jG (by simpa using i7)];exact List.getElem_mem _)
       have HKe:Hid (pinK so.data.toList G i=powE so[i] g1):=by show _=_; unfold pinK; rw[hgd,List.getD_eq_getElem?_getD,hgg];rfl
       have hv2:so[i]=98→g1.u≠0→0≤g1.v:=by
        intro h1 h2
        unfold pinAt at hpa
        have hg2:G.getD (i+1) Zero=g1:=by rw[List.getD_eq_getElem?_getD,hgg];rfl
        rw[hgd,h1,hg2,Bool.and_eq_true] at hpa
        have h3:=hpa.2
        unfold pinB at h3
        rw[if_pos rfl,decide_eq_true_eq] at h3
        rcases h3.2 with h4 | h4
        ·exact absurd h4 h2
        ·exact h4
       have HBb:Hid (1000000000+21000000000*(s.size - so.size)+42000000000≤5000000000000):=by show _≤_; have:=Hle.out; omega
       have hP2:=rpow_calls HR6.out.rk.rc HR6.out.pr HGl.out (by have:=Hle.out; omega) hn hx1 hgg (HGo.out g1 (jM hgg)) hv2 (by have:=HBb.out; omega)
       have y0:w6.cell? ⟨D6,0,none⟩=some (.string so):=by rw[jB HR6.out.b6];rfl
       have y1:w6.cell? ⟨D6,1,none⟩=some (.slice ga n gc):=by rw[jB HR6.out.b6];rfl
       have Hn:=jH hn
       have Hx1:=jH hx1
       clear hi hpa hgg hgd hx1 hv2 s0
       go_wp2_with fail
       refine hP2.mono ?_
       rintro e w7 ⟨q,fv2,fl2,vs2,rfl,hk2,hq2⟩
       have HR7:=jH (HR6.out.call hk2.out)
       clear hP2 hk2 y0 y1
       rw[← HKe.out] at HR7 hq2
       obtain⟨K,hK⟩:∃ K,K=pinK so.data.toList G i:=⟨_,rfl⟩
       rw[← hK] at HR7 hq2
       have HK:=jH hK
       clear hK
       by_cases hal:allowed K
       ·have hof:orFull false K=false:=zN.2 hal
        rw[hof] at HR7
        clear hof
        have HAl:=jH hal
        clear hal
        have c1:=HR7.out.rk.rc.c1
        have HBl7:Hid (Below W0.heap.size W0 w7):=jy HW0.out (jR _) (fun b hb=>by
         rcases List.mem_cons.1 hb with rfl | hb
         ·exact Nat.le_trans HW0.out.size Hcw.out
         ·exact HN.out b (rF_rB hb)) HR7.out.rk.fr
        obtain⟨a2,c2,e02,hall2⟩:=HV.out.below HBl7.out
        obtain⟨ea2,-,-⟩:=Value.slice.inj e02
        obtain⟨-,g2,off2,ub2,eg2,-,s17,hbr7⟩:=hall2 k _ Ht.out
        obtain⟨rfl,rfl⟩:g=g2∧off=off2:=by rw[← ea2] at eg2; cases eg2; exact⟨rfl,rfl⟩
        obtain⟨ua,uc,hub2⟩:=hbr7.shape
        subst hub2
        dsimp only at s17 hbr7
        obtain⟨nb,hnb⟩:∃ n,n=tbs.length:=⟨_,rfl⟩
        rw[← hnb] at s17 hbr7
        have Hbr7:=jH hbr7
        obtain⟨C2,hC2⟩:=HR7.out.rk.rc.rw
        have hBy:=fun M=>xL (hC2.2.drewN M) hq2.out HAl.out
        have cv0:∀ n,(Go.convert 40 9 (.slice ua nb uc)).run Tryz.prog (w7.drewN n)=.ok (.string ⟨tbs.toArray⟩) (w7.drewN n):=fun n=>conv_Id hbr7 n
        have cv9:(Go.convert 40 9 (.slice ua nb uc)).run Tryz.prog w7.drew=.ok (.string ⟨tbs.toArray⟩) w7.drew:=cv0 1
        clear e02 hall2 ea2 hnb hbr7 hC2 cv0
        go_upto_region 16 with fail
        go_cut [64] from 54 to 64 (fun v64 wq=>v64=.bool (decide (¬ nbytes K=tbs))∧Hid (Below w7.heap.size w7 wq))
        case first =>
         by_cases hbs:nbytes K=tbs
         ·subst hbs
          go_region_law (first
           | (go_simp; go_at_call 37; refine (hBy _).mono ?_; rintro e8 w8 ⟨bv,rfl,hbv,hb8,-⟩
              have cv1:=zh hbv.out (W':=w8) (fun _ _=>rfl)
              have HB8:=jH (Below.trans' (jN w7 _) hb8.out)
              have cv2:=conv_Ib Hbr7.out HB8.out
              have s18:=qn HB8.out s17
              clear hbv hb8))
          all_goals
           go_wp2_with fail
           go_meet
           case rel=>exact⟨by simp,HB8⟩
         ·have Hbs:=jH hbs
          have n1:¬ ((⟨(nbytes K).toArray⟩:ByteArray)=⟨tbs.toArray⟩):=fun h=>hbs (by have:=congrArg (fun b:ByteArray=>b.data.toList) h; simpa using this)
          have n2:decide ((⟨(nbytes K).toArray⟩:ByteArray)=⟨tbs.toArray⟩)=false:=decide_eq_false n1
          clear hbs
          go_region_law (first
           | (go_simp; go_at_call 37; refine (hBy _).mono ?_; rintro e8 w8 ⟨bv,rfl,hbv,hb8,-⟩
              have cv1:=zh hbv.out (W':=w8) (fun _ _=>rfl)
              have HB8:=jH (Below.trans' (jN w7 _) hb8.out)
              have cv2:=conv_Ib Hbr7.out HB8.out
              have s18:=qn HB8.out s17
              clear hbv hb8))
          all_goals
           go_wp2_with fail
           go_meet
           case rel=>exact⟨by simp[Hbs.out],HB8⟩
        case rest =>
         obtain⟨rfl,HB8⟩:=hcut
         obtain⟨w8,rfl⟩:∃ w8,w8=wc:=⟨_,rfl⟩
         have HR8:=jH (HR7.out.below HB8.out)
         clear c1
         by_cases hbs:nbytes K=tbs
         ·have n1:decide (¬ nbytes K=tbs)=false:=decide_eq_false (fun h=>h hbs)
          have Hbs:=jH hbs
          have y0:w8.cell? ⟨D6,0,none⟩=some (.string so):=by rw[jB HR8.out.b6];rfl
          have y1:w8.cell? ⟨D6,1,none⟩=some (.slice ga n gc):=by rw[jB HR8.out.b6];rfl
          have hMk:=rmake_calls HR8.out.rk.rc HR8.out.pr HGl.out (by have:=Hle.out; omega) Hn.out Hx1.out HGo.out hq2.out HAl.out (by have:=HBb.out; omega)
          obtain⟨mf,hmf⟩:∃ mf,makeF so.data.toList G i K=mf:=⟨_,rfl⟩
          rw[hmf] at hMk
          have Hmf:=jH hmf
          clear hbs hmf
          go_wp2_with fail
          refine hMk.mono ?_
          rintro e w10 ⟨s3,gv3,l3,fv3,fl3,vs3,rfl,hs3,hp3,hk3⟩
          obtain⟨ga3,gc3,hgv3⟩:=ja hp3.out.row
          subst hgv3
          obtain⟨n3,hn3⟩:∃ n,n=l3.length:=⟨_,rfl⟩
          rw[← hn3] at hp3
          rw[← hn3]
          clear hn3 hMk y0 y1
          have HR10:=jH (HR8.out.call hk3.out)
          have HR11:=jH (HR10.out.set6 (s':=s3) hp3.out)
          have Hs3:=jH hs3.out
          have Hz3:Hid (s3.size+2=so.size):=by
           have h1:=zd (o:=so.data.toList) (i:=i) (by have:=Hn.out; simpa using this)
           rw[← Hs3.out] at h1
           show _=_
           simpa using h1
          have HL3:Hid ((makeG so.data.toList G i K).length=s3.size+1):=by
           have h1:=makeG_len (o:=so.data.toList) (G:=G) (i:=i) (K:=K) (by have:=Hn.out; simpa using this) (by have:=HGl.out; simpa using this)
           rw[← Hs3.out] at h1
           show _=_
           simpa using h1
          have HLe3:Hid (∀ x∈s3.data.toList,x=98∨x=66):=by
           show ∀ x∈s3.data.toList,_
           rw[Hs3.out];exact xP HLe.out
          have y0:w10.cell? ⟨D6,0,none⟩=some (.string so):=by rw[jB HR10.out.b6];rfl
          have y1:w10.cell? ⟨D6,1,none⟩=some (.slice ga n gc):=by rw[jB HR10.out.b6];rfl
          have fy:=fun o=>jF HR10.out.b6 o
          clear hs3 hp3 hk3
          have HPi2:Hid (pinI so.data.toList G ((i:Nat):Int)=true):=Hpb
          have HAl2:Hid (allowed (pinK so.data.toList G ((i:Int)).toNat)):=by
           show allowed _
           rw[Int.toNat_natCast,← HK.out];exact HAl.out
          have HBy2:Hid (nbytes (pinK so.data.toList G ((i:Int)).toNat)=tbs):=by
           show _=_
           rw[Int.toNat_natCast,← HK.out];exact Hbs.out
          go_upto_region 19 with fail
          obtain⟨w11,hw11⟩:∃ w,w=((w10.setCell ⟨D6,0,none⟩ (.string s3)).setCell ⟨D6,1,none⟩ (.slice ga3 n3 gc3)):=⟨_,rfl⟩
          rw[← hw11] at HR11 ⊢
          clear hw11 y0 y1 fy
          have c1:=HR11.out.rk.rc.c1
          cases mf with
          | true =>
            have HEr:Hid (ckOut s.data.toList S=(0,Zero,5)):=ckOut_err Htb.out (by
             rw[← HCd.out]
             refine chkE_made (s:=((i:Int),tbs)) HPi2.out HAl2.out HBy2.out ?_
             intro h
             rw[show (((i:Int),tbs):Stp).1.toNat=i from Int.toNat_natCast i] at h
             have hKe:=HK.out
             have hA:allowed (pinK so.data.toList G i):=by rw[← hKe];exact HAl.out
             have h2:=(makeF_iff hA).2 ⟨hA,h⟩
             rw[← hKe,Hmf.out] at h2
             exact absurd h2 (by decide))
            have q0:w11.cell? ⟨B,0,none⟩=some (.slice none 0 0):=by rw[jB HR11.out.b0];rfl
            have q1:w11.cell? ⟨B,1,none⟩=some (.int .i64 0):=by rw[jB HR11.out.b0];rfl
            have q2:w11.cell? ⟨B,2,none⟩=some (.int .i64 0):=by rw[jB HR11.out.b0];rfl
            have q3:w11.cell? ⟨B,3,none⟩=some (.int .i64 0):=by rw[jB HR11.out.b0];rfl
            have q4:w11.cell? ⟨B,4,none⟩=some (.int .i64 0):=by rw[jB HR11.out.b0];rfl
            have q5:w11.cell? ⟨B,5,none⟩=some (.int .i64 0):=by rw[jB HR11.out.b0];rfl
            have fB:=fun o=>jF HR11.out.b0 o
            go_wp2_with fail
            refine bodyPost_ret (v:=.agg #[.slice none 0 0,.int .i64 0,.int .i64 0,.int .i64 0,.int .i64 0,.int .i64 5]) (by simp[results,Tryz.results32,go_sem,q0,q1,q2,q3,q4,q5]) rfl ?_
            have hK:=HR11.out.rk.end6 HR11.out.b0 HR11.out.hB (.slice none 0 0) (.int .i64 0) (.int .i64 0) (.int .i64 0) (.int .i64 0) (.int .i64 5)
            obtain⟨Cx,-,hrw⟩:=hK.rc.rw
            rw[HEr.out]
            exact⟨0,0,0,Cx,_,_,_,rfl,hK.fr.drop_new Hcw.out,hrw,⟨hrw.wv.zero,hrw.wv.zero,hrw.wv.zero⟩,EOK.zero⟩
          | false =>
            have HE3:Hid (∀ x∈makeG so.data.toList G i K,EOK x):=by
             show ∀ x∈_,_
             have hKe:=HK.out
             rw[hKe]
             exact makeG_eok (by rw[← hKe];exact HAl.out) (by rw[← hKe];exact Hmf.out) HGo.out
            have HRm:=jH (HR11.out.mono (b':=1000000000+21000000000*(s.size - s3.size)) (by have:=Hz3.out; omega))
            have HCk3:Hid (chkE (S.drop (k+1)) s3.data.toList (makeG so.data.toList G i K)=checkE s.data.toList S):=by
             show _=_
             have hKe:=HK.out
             have hF:makeF so.data.toList G i (pinK so.data.toList G i)=false:=by rw[← hKe];exact Hmf.out
             have hA:allowed (pinK so.data.toList G i):=by rw[← hKe];exact HAl.out
             have hp:=((makeF_iff hA).1 hF).2
             have h9:=chkE_yes (s:=((i:Int),tbs)) (S:=S.drop (k+1)) HPi2.out HAl2.out HBy2.out (by
              show pinOK (so.data.toList.getD ((i:Int)).toNat 0) (pinK so.data.toList G ((i:Int)).toNat) (G.getD ((i:Int)).toNat Zero) (G.getD (((i:Int)).toNat+2) Zero)
              rw[Int.toNat_natCast];exact hp)
             have e9:(((i:Int),tbs):Stp).1.toNat=i:=Int.toNat_natCast i
             rw[e9] at h9
             rw[← HCd.out,h9,Hs3.out,hKe,makeG_ok hA hF]
            go_wp2_with fail
            go_roundg (sn - (k+1))
            case measure=>omega
            case rel=>exact⟨k+1,s3,ga3,n3,gc3,l3,makeG so.data.toList G i K,fv3,fl3,vs3,by go_num,by omega,by omega,by have:=Hz3.out; omega,HL3,HLe3,HE3,HRm,HCk3⟩
         ·have HEr:Hid (ckOut s.data.toList S=(0,Zero,1)):=ckOut_err Htb.out (by
           rw[← HCd.out]
           refine chkE_bytes Hpb.out ?_ ?_
           ·show allowed (pinK so.data.toList G ((i:Int)).toNat)
            rw[Int.toNat_natCast,← HK.out];exact HAl.out
           ·show nbytes (pinK so.data.toList G ((i:Int)).toNat)≠tbs
            rw[Int.toNat_natCast,← HK.out];exact hbs)
          have n1:decide (¬ nbytes K=tbs)=true:=decide_eq_true hbs
          have q0:w8.cell? ⟨B,0,none⟩=some (.slice none 0 0):=by rw[jB HR8.out.b0];rfl
          have q1:w8.cell? ⟨B,1,none⟩=some (.int .i64 0):=by rw[jB HR8.out.b0];rfl
          have q2:w8.cell? ⟨B,2,none⟩=some (.int .i64 0):=by rw[jB HR8.out.b0];rfl
          have q3:w8.cell? ⟨B,3,none⟩=some (.int .i64 0):=by rw[jB HR8.out.b0];rfl
          have q4:w8.cell? ⟨B,4,none⟩=some (.int .i64 0):=by rw[jB HR8.out.b0];rfl
          have q5:w8.cell? ⟨B,5,none⟩=some (.int .i64 0):=by rw[jB HR8.out.b0];rfl
          have fB:=fun o=>jF HR8.out.b0 o
          go_wp2_with fail
          refine bodyPost_ret (v:=.agg #[.slice none 0 0,.int .i64 0,.int .i64 0,.int .i64 0,.int .i64 0,.int .i64 1]) (by simp[results,Tryz.results32,go_sem,q0,q1,q2,q3,q4,q5]) rfl ?_
          have hK:=HR8.out.rk.end6 HR8.out.b0 HR8.out.hB (.slice none 0 0) (.int .i64 0) (.int .i64 0) (.int .i64 0) (.int .i64 0) (.int .i64 1)
          obtain⟨Cx,-,hrw⟩:=hK.rc.rw
          rw[HEr.out]
          exact⟨0,0,0,Cx,_,_,_,rfl,hK.fr.drop_new Hcw.out,hrw,⟨hrw.wv.zero,hrw.wv.zero,hrw.wv.zero⟩,EOK.zero⟩
       ·have hof:orFull false K=true:=by
         cases h:orFull false K with
         | true=>rfl
         | false=>exact absurd (zN.1 h) hal
        rw[hof] at HR7
        have HEr:Hid (ckOut s.data.toList S=(0,Zero,5)):=ckOut_err Htb.out (by
         rw[← HCd.out]
         exact chkE_full Hpb.out (by show ¬ allowed (pinK so.data.toList G ((i:Int)).toNat);rw[Int.toNat_natCast,← HK.out];exact hal))
        clear hal hof
        have c1:=HR7.out.rk.rc.c1
        have q0:w7.cell? ⟨B,0,none⟩=some (.slice none 0 0):=by rw[jB HR7.out.b0];rfl
        have q1:w7.cell? ⟨B,1,none⟩=some (.int .i64 0):=by rw[jB HR7.out.b0];rfl
        have q2:w7.cell? ⟨B,2,none⟩=some (.int .i64 0):=by rw[jB HR7.out.b0];rfl
        have q3:w7.cell? ⟨B,3,none⟩=some (.int .i64 0):=by rw[jB HR7.out.b0];rfl
        have q4:w7.cell? ⟨B,4,none⟩=some (.int .i64 0):=by rw[jB HR7.out.b0];rfl
        have q5:w7.cell? ⟨B,5,none⟩=some (.int .i64 0):=by rw[jB HR7.out.b0];rfl
        have fB:=fun o=>jF HR7.out.b0 o
        go_wp2_with fail
        refine bodyPost_ret (v:=.agg #[.slice none 0 0,.int .i64 0,.int .i64 0,.int .i64 0,.int .i64 0,.int .i64 5]) (by simp[results,Tryz.results32,go_sem,q0,q1,q2,q3,q4,q5]) rfl ?_
        have hK:=HR7.out.rk.end6 HR7.out.b0 HR7.out.hB (.slice none 0 0) (.int .i64 0) (.int .i64 0) (.int .i64 0) (.int .i64 0) (.int .i64 5)
        obtain⟨Cx,-,hrw⟩:=hK.rc.rw
        rw[HEr.out]
        exact⟨0,0,0,Cx,_,_,_,rfl,hK.fr.drop_new Hcw.out,hrw,⟨hrw.wv.zero,hrw.wv.zero,hrw.wv.zero⟩,EOK.zero⟩
    ·have hkz:¬ ((k:Int)<(sn:Int)):=by omega
     have hkz2:decide ((k:Int)<(sn:Int))=false:=by rw[decide_eq_false_iff_not];exact hkz
     have HOc:Hid (ckOut s.data.toList S=(so.size,endE so.data.toList G,0)):=by
      show _=_
      have hk:S.drop k=[]:=List.drop_eq_nil_of_le (by have:=Hsn.out; omega)
      have h1:checkE s.data.toList S=.ok (so.data.toList,G):=by rw[← HCh.out,hk];rfl
      unfold ckOut; rw[if_pos Htb.out,h1];simp
     obtain⟨D7,hD7⟩:∃ D,wr.heap.size=D:=⟨_,rfl⟩
     obtain⟨W9,hW9⟩:∃ w,wr.alloc (.cells #[.slice none 0 0,.int .i64 0,.int .i64 0,.int .i64 0,.int .i64 0,.int .i64 0] 37)=w:=⟨_,rfl⟩
     have hbl9:Below wr.heap.size wr W9:=by rw[← hW9];exact (jV wr _).out
     have HR9:=jH (HR.out.below hbl9)
     have HD9:Hid (W9.heap[D7]? = some (.cells #[.slice none 0 0,.int .i64 0,.int .i64 0,.int .i64 0,.int .i64 0,.int .i64 0] 37 (0,0))):=by show _=_; rw[← hW9,← hD7];exact jD wr _
     have HlD:Hid (W.heap.size≤D7∧B<D7):=by
      have h1:=HR.out.rk.fr.size
      have h2:=(jA HR.out.b0).1
      exact⟨by omega,by omega⟩
     have y0:W9.cell? ⟨D6,0,none⟩=some (.string so):=by rw[jB HR9.out.b6];rfl
     have y1:W9.cell? ⟨D6,1,none⟩=some (.slice ga n gc):=by rw[jB HR9.out.b6];rfl
     have hE:=rend_calls HR9.out.rk.rc.wv HR9.out.pr HGl.out (by have:=Hle.out; omega)
     have x0:W9.cell? ⟨D7,0,none⟩=some (.slice none 0 0):=by rw[jB HD9.out];rfl
     have x1:W9.cell? ⟨D7,1,none⟩=some (.int .i64 0):=by rw[jB HD9.out];rfl
     have x2:W9.cell? ⟨D7,2,none⟩=some (.int .i64 0):=by rw[jB HD9.out];rfl
     have x3:W9.cell? ⟨D7,3,none⟩=some (.int .i64 0):=by rw[jB HD9.out];rfl
     have x4:W9.cell? ⟨D7,4,none⟩=some (.int .i64 0):=by rw[jB HD9.out];rfl
     have x5:W9.cell? ⟨D7,5,none⟩=some (.int .i64 0):=by rw[jB HD9.out];rfl
     have fX:=fun o=>jF HD9.out o
     have k0:=jq x0
     have k1:=jq x1
     have k2:=jq x2
     have k3:=jq x3
     have k4:=jq x4
     have k5:=jq x5
     clear hbl9 hk hg hkn
     go_wp2_with fail
     refine hE.mono ?_
     rintro e w5 ⟨iu,iv,im,rfl,hat,hb5⟩
     have HR5:=jH (HR9.out.below hb5.out)
     have HD5:=jH (Below.here hb5.out HD9.out)
     clear hE hb5 y0 y1 x0 x1 x2 x3 x4 x5 fX k0 k1 k2 k3 k4 k5
     have q0:w5.cell? ⟨B,0,none⟩=some (.slice none 0 0):=by rw[jB HR5.out.b0];rfl
     have q1:w5.cell? ⟨B,1,none⟩=some (.int .i64 0):=by rw[jB HR5.out.b0];rfl
     have q2:w5.cell? ⟨B,2,none⟩=some (.int .i64 0):=by rw[jB HR5.out.b0];rfl
     have q3:w5.cell? ⟨B,3,none⟩=some (.int .i64 0):=by rw[jB HR5.out.b0];rfl
     have q4:w5.cell? ⟨B,4,none⟩=some (.int .i64 0):=by rw[jB HR5.out.b0];rfl
     have q5:w5.cell? ⟨B,5,none⟩=some (.int .i64 0):=by rw[jB HR5.out.b0];rfl
     have d0:w5.cell? ⟨D7,0,none⟩=some (.slice none 0 0):=by rw[jB HD5.out];rfl
     have d1:w5.cell? ⟨D7,1,none⟩=some (.int .i64 0):=by rw[jB HD5.out];rfl
     have d2:w5.cell? ⟨D7,2,none⟩=some (.int .i64 0):=by rw[jB HD5.out];rfl
     have d3:w5.cell? ⟨D7,3,none⟩=some (.int .i64 0):=by rw[jB HD5.out];rfl
     have d4:w5.cell? ⟨D7,4,none⟩=some (.int .i64 0):=by rw[jB HD5.out];rfl
     have d5:w5.cell? ⟨D7,5,none⟩=some (.int .i64 0):=by rw[jB HD5.out];rfl
     have fB:=fun o=>jF HR5.out.b0 o
     have fD:=fun o=>jF HD5.out o
     have nB1:B≠D7:=by have:=HlD.out; omega
     have nB2:D7≠B:=Ne.symm nB1
     go_wp2_with fail
     refine bodyPost_ret (v:=.agg #[.slice none 0 0,.int .i64 (so.size:Nat),.int .i64 (iu:Nat),.int .i64 (iv:Nat),.int .i64 (im:Nat),.int .i64 0]) (by simp[results,Tryz.results32,go_sem,q0,q1,q2,q3,q4,q5]) rfl ?_
     obtain⟨f1,e1⟩:=HR5.out.rk.setT HD5.out (by decide) HlD.out.1 1 (.int .i64 (so.size:Nat))
     obtain⟨f2,e2⟩:=f1.setT e1 (by decide) HlD.out.1 2 (.int .i64 (iu:Nat))
     obtain⟨f3,e3⟩:=f2.setT e2 (by decide) HlD.out.1 3 (.int .i64 (iv:Nat))
     obtain⟨f4,e4⟩:=f3.setT e3 (by decide) HlD.out.1 4 (.int .i64 (im:Nat))
     have hB4:((((w5.setCell ⟨D7,1,none⟩ (.int .i64 (so.size:Nat))).setCell ⟨D7,2,none⟩ (.int .i64 (iu:Nat))).setCell ⟨D7,3,none⟩ (.int .i64 (iv:Nat))).setCell ⟨D7,4,none⟩ (.int .i64 (im:Nat))).heap[B]? = some (.cells #[.slice none 0 0,.int .i64 0,.int .i64 0,.int .i64 0,.int .i64 0,.int .i64 0] 37 (0,0)) :=
      ((jS _ _ _ _ nB1).trans ((jS _ _ _ _ nB1).trans ((jS _ _ _ _ nB1).trans (jS _ _ _ _ nB1)))).trans HR5.out.b0
     have hK:=f4.end6 hB4 HR5.out.hB (.slice none 0 0) (.int .i64 (so.size:Nat)) (.int .i64 (iu:Nat)) (.int .i64 (iv:Nat)) (.int .i64 (im:Nat)) (.int .i64 0)
     obtain⟨Cx,-,hrw⟩:=hK.rc.rw
     rw[HOc.out]
     exact⟨iu,iv,im,Cx,_,_,_,rfl,hK.fr.drop_new Hcw.out,hrw,hat.out,endE_eok HGo.out⟩
theorem alike_calls {C:List Int}{W:World}{p:Nat}{fv:Value}{fl:List Value}{vs:List Int}(H:RW C W p fv fl vs){q:Option Addr}{x:Int}(hx:IsN W (.agg #[.pointer q]) x){i:Nat}(hi:vs[i]? = some x):
 Calls Tryz.prog 50 #[.pointer (some ⟨p,0,none⟩),.agg #[.pointer q],.int .i64 (i:Nat)] W fun e W'=>e=.returned (.bool true)∧Hid (Below W.heap.size W W'):=by
 have hA:=fun M=>Bytes_calls (W:=(W.alloc (.cells #[.pointer q] 26)).drewN M) (hx.below (zO W _ M).out)
 have HBy:=jH (fun w (h:Below W.heap.size W w)=>xL (H.below h) hi hx.1)
 have HB0:=jH (fun M=>(zO W (.cells #[.pointer q] 26) M).out)
 clear H hx hi
 go_enter Tryz.func50,Tryz.ntmps50
 go_wp2_with fail
 go_region_law (first
  | (go_simp; go_at_call 37; refine hB2.mono ?_; rintro e2 w2 ⟨v2,rfl,hr2,hb2,-⟩
     have cv3:=zh (hr1.out) (W':=w2) (fun b hb=>hb2.out.block b (jP hr1.out hb))
     have cv2:=zh hr2.out (W':=w2) (fun _ _=>rfl)
     have HBl:=jH (Below.trans' HB1.out hb2.out)
     clear hr2 hb2)
  | (go_simp; go_at_call 69; refine (hA _).mono ?_; rintro e1 w1 ⟨v1,rfl,hr1,hb1,-⟩
     have HB1:=jH (Below.trans' (HB0.out _) hb1.out)
     have hB2:=HBy.out w1 HB1.out
     have cv1:=zh hr1.out (W':=w1) (fun _ _=>rfl)
     clear hb1))
 all_goals
  go_wp2_with fail
  go_ret
  exact⟨by first | rfl | simp,HBl⟩
theorem like_calls {C:List Int}{W:World}{p:Nat}{fv:Value}{fl:List Value}{vs:List Int}(H:RW C W p fv fl vs){qu qv qm:Option Addr}{x:E3}(hx:IsE W (.agg #[.pointer qu,.pointer qv,.pointer qm]) x){iu iv im:Nat}(hi:AtE vs x iu iv im):
 Calls Tryz.prog 17 #[.pointer (some ⟨p,0,none⟩),.agg #[.pointer qu,.pointer qv,.pointer qm],.agg #[.int .i64 (iu:Nat),.int .i64 (iv:Nat),.int .i64 (im:Nat)]] W fun e W'=>e=.returned (.bool true)∧Hid (Below W.heap.size W W'):=by
 obtain⟨hu,hv,hm⟩:=IsE.parts (t:=(qu,qv,qm)) hx
 obtain⟨W1,hW1,HB1⟩:∃ W1,W1=(W.alloc (.cells #[.pointer qu,.pointer qv,.pointer qm] 28)).alloc (.cells #[.int .i64 (iu:Nat),.int .i64 (iv:Nat),.int .i64 (im:Nat)] 35)∧Hid (Below W.heap.size W W1):=⟨_,rfl,((Below.refl _ W).alloc (jR _) _).alloc (by simp) _⟩
 have hA1:=alike_calls (H.below HB1.out) (hu.below HB1.out) hi.u
 have HAv:=jH (fun w (h:Below W.heap.size W w)=>alike_calls (H.below h) (hv.below h) hi.v)
 have HAm:=jH (fun w (h:Below W.heap.size W w)=>alike_calls (H.below h) (hm.below h) hi.m)
 have HX0:Hid (W1.heap[W.heap.size]? = some (.cells #[.pointer qu,.pointer qv,.pointer qm] 28 (0,0))):=by show _=_; rw[hW1];exact qU W _ _
 have HX1:Hid (W1.heap[W.heap.size+1]? = some (.cells #[.int .i64 (iu:Nat),.int .i64 (iv:Nat),.int .i64 (im:Nat)] 35 (0,0))):=by show _=_; rw[hW1];exact qA W _ _
 rw[hW1] at hA1
 have HW1:=jH hW1
 clear H hx hi hu hv hm hW1
 go_enter Tryz.func17,Tryz.ntmps17
 go_wp2_with fail
 refine hA1.mono ?_
 rintro e w2 ⟨rfl,hb2⟩
 have HB2:=jH (Below.trans' HB1.out (by rw[HW1.out];exact hb2.out))
 have HX2:=jH (Below.here (by rw[HW1.out];exact hb2.out) HX0.out)
 have HY2:=jH (Below.here (by rw[HW1.out];exact hb2.out) HX1.out)
 have hA2:=HAv.out w2 HB2.out
 have x1:w2.cell? ⟨W.heap.size,1,none⟩=some (.pointer qv):=by rw[jB HX2.out];rfl
 have y1:w2.cell? ⟨W.heap.size+1,1,none⟩=some (.int .i64 (iv:Nat)):=by rw[jB HY2.out];rfl
 clear hA1 hb2
 go_wp2_with fail
 refine hA2.mono ?_
 rintro e w3 ⟨rfl,hb3⟩
 have HB3:=jH (Below.trans' HB2.out hb3.out)
 have HX3:=jH (Below.here hb3.out HX2.out)
 have HY3:=jH (Below.here hb3.out HY2.out)
 have hA3:=HAm.out w3 HB3.out
 have x2:w3.cell? ⟨W.heap.size,2,none⟩=some (.pointer qm):=by rw[jB HX3.out];rfl
 have y2:w3.cell? ⟨W.heap.size+1,2,none⟩=some (.int .i64 (im:Nat)):=by rw[jB HY3.out];rfl
 clear hA2 hb3 x1 y1
 go_wp2_with fail
 refine hA3.mono ?_
 rintro e w4 ⟨rfl,hb4⟩
 have HB4:=jH (Below.trans' HB3.out hb4.out)
 clear hA3 hb4
 go_wp2_with fail
 go_ret
 exact⟨rfl,HB4⟩
theorem checks_calls {W:World}{s:ByteArray}(hs:s.size≤9223372036854775807){v:Value}{S:List Stp}(hv:SIn W v S)(hSb:∀ t∈S,t.2.length≤140737488355328): Calls Tryz.prog 8 #[.string s,v] W fun e W'=>e=.returned (.bool true)∧Hid (Below W.heap.size W W'):=by
 have HV:=jH hv
 obtain⟨sa,sc,rfl,hz0⟩:=hv
 have HZ:Hid (∀ t∈S,-9223372036854775808≤t.1∧t.1≤9223372036854775807):=fun t ht=>by
  obtain⟨j,hj⟩:=List.getElem?_of_mem ht
  exact (hz0 j t hj).1
 have HSb:=jH hSb
 obtain⟨sn,hsn⟩:∃ n,n=S.length:=⟨_,rfl⟩
 rw[← hsn] at HV
 rw[← hsn]
 have Hsn:=jH hsn
 clear hz0 hSb hsn
 by_cases hz:(s.size≤130∨400<s.size)∧sn≤200
 ·obtain⟨hz,hn⟩:=hz
  go_enter Tryz.func8,Tryz.ntmps8
  go_upto_region 1 with fail
  go_cut [25] from 13 to 25 (fun v25 wq=>v25=.bool false∧wq=W)
  case first =>
   have q4:decide ((200:Int)<(sn:Int))=false:=by rw[decide_eq_false_iff_not];omega
   by_cases h130:130<s.size
   ·have q2:decide ((130:Int)<(s.size:Int))=true:=by rw[decide_eq_true_eq];omega
    have q3:decide ((s.size:Int)≤400)=false:=by rw[decide_eq_false_iff_not];omega
    go_wp2_with fail
    go_meet
    case rel=>exact⟨rfl,rfl⟩
   ·have q2:decide ((130:Int)<(s.size:Int))=false:=by rw[decide_eq_false_iff_not];omega
    go_wp2_with fail
    go_meet
    case rel=>exact⟨rfl,rfl⟩
  case rest =>
   obtain⟨rfl,rfl⟩:=hcut
   obtain⟨W,rfl⟩:∃ W,W=wc:=⟨_,rfl⟩
   have hN:=xM W
   go_wp2_with fail
   refine hN.mono ?_
   rintro e w2 ⟨p,fv,fl,rfl,hrw,hb2,hnew⟩
   have hR:=rcheck_calls (W0:=W) hrw.out (by decide) hs hz HV.out (by have:=Hsn.out; omega) hb2.out hnew.out
   obtain⟨oc,hoc⟩:∃ oc,oc=ckOut s.data.toList S:=⟨_,rfl⟩
   rw[← hoc] at hR
   have HCk:Hid (∀ (w:World) (v:Value),SRd w v S→Calls Tryz.prog 33 #[.string s,v] w fun e W' =>
    ∃ qu qv qm,e=.returned (.tuple #[.int .i64 (oc.1:Nat),.agg #[.pointer qu,.pointer qv,.pointer qm],.int .i64 oc.2.2])∧Hid (Below w.heap.size w W')∧Hid (IsE W' (.agg #[.pointer qu,.pointer qv,.pointer qm]) oc.2.1)):=fun w v h=>by
    rw[hoc];exact ckU hs h (by have:=Hsn.out; omega)
   obtain⟨left,x,er⟩:=oc
   have HB2:=jH hb2.out
   have HN2:=jH hnew.out
   have Hn:=jH hn
   clear hN hrw hb2 hnew hoc hn
   go_wp2_with fail
   refine hR.mono ?_
   rintro e w3 ⟨eu,ev,em,C3,fv3,fl3,vs3,rfl,hf3,hr3,ho3⟩
   dsimp only at ho3 ⊢
   have HB3:Hid (Below W.heap.size W w3):=jy HB2.out (jR _) (fun b hb=>HN2.out b (rF_rB hb)) hf3.out
   obtain⟨w4,hw4⟩:∃ w4,w3.alloc (.cells #[.slice none 0 0,.int .i64 (left:Nat),.int .i64 (eu:Nat),.int .i64 (ev:Nat),.int .i64 (em:Nat),.int .i64 er] 37)=w4:=⟨_,rfl⟩
   obtain⟨D6,hD6⟩:∃ D,w3.heap.size=D:=⟨_,rfl⟩
   have hbl4:Below w3.heap.size w3 w4:=by rw[← hw4];exact (jV w3 _).out
   have HR4:=jH (hr3.out.below hbl4)
   have HY4:Hid (w4.heap[D6]? = some (.cells #[.slice none 0 0,.int .i64 (left:Nat),.int .i64 (eu:Nat),.int .i64 (ev:Nat),.int .i64 (em:Nat),.int .i64 er] 37 (0,0))):=by show _=_; rw[← hw4,← hD6];exact jD w3 _
   have HB4:Hid (Below W.heap.size W w4):=Below.trans' HB3.out hbl4
   have Ho4:=jH ho3.out
   have HVb:Hid (∀ w,Below w4.heap.size w4 w→SIn w (.slice sa sn sc) S):=fun w hb=>HV.out.below (Below.trans' HB4.out hb)
   clear hR hf3 hr3 ho3 hbl4
   go_wp2_with fail
   go_loopg [7,8] sn (fun g1 v7 v8 wr=>∃ k:Nat,v8=.int .i64 k∧k≤sn∧sn - k≤g1∧Hid (Below w4.heap.size w4 wr)∧Hid (GRow w4.heap.size wr v7 (S.take k)))
   case atStart=>exact⟨0,rfl,Nat.zero_le _,jR _,Below.refl _ _,GRow.nil _ _⟩
   case round =>
    obtain⟨k,rfl,hkn,hg1,HBr,HG⟩:=hrel
    by_cases hk:k<sn
    ·have hkz:(k:Int)<(sn:Int):=by omega
     have hkz2:decide ((k:Int)<(sn:Int))=true:=by rw[decide_eq_true_eq];exact hkz
     have hk0:(0:Int)≤(k:Int):=Int.natCast_nonneg k
     have hk1:((k:Int)).toNat=k:=by omega
     have hkw:IntKind.i64.wrap ((k:Int)+1)=(k:Int)+1:=IntWalk.i64_in _ (by have:=Hn.out; omega)
     obtain⟨t,ht⟩:∃ t,S[k]? = some t:=⟨_,jG (by have:=Hsn.out; omega)⟩
     obtain⟨a',c',e0,hall⟩:=HVb.out w4 (Below.refl _ _)
     obtain⟨ea,-,-⟩:=Value.slice.inj e0
     subst ea
     obtain⟨hbd,g,off,u,rfl,s0,s1,hu⟩:=hall k t ht
     obtain⟨at',pw⟩:=t
     dsimp only at s0 hu hbd
     obtain⟨ua,uc,hue⟩:=hu.shape
     subst hue
     have HU:Hid (BIn wr (.slice ua pw.length uc) pw):=hu.below HBr.out
     have Ht:=jH ht
     have HS40:Hid (w4.cell? ⟨g,off+k*2,none⟩=some (.int .i64 at')∧w4.cell? ⟨g,off+k*2+1,none⟩=some (.slice ua pw.length uc)):=⟨s0,s1⟩
     clear s0 s1
     have Htk:Hid (S.take (k+1)=S.take k++[(at',pw)]):=by
      show _=_
      rw[List.take_add_one,Ht.out];rfl
     have HkL:Hid ((S.take k).length=k):=by show _=_; rw[List.length_take];have:=Hsn.out; omega
     obtain⟨⟨us,hul,hrow,hus⟩,hown⟩:=HG.out
     have Hrow:=jH hrow
     have Hus:=jH hus
     have Hul:=jH hul
     have Hown:=jH hown
     have hbk:(S.take k).length+1≤1099511627776:=by have:=HkL.out; have:=Hn.out; omega
     clear hall e0 ht hu hul hrow hus hown
     go_upto_region 9 with fail
     have HSS:Hid (∀ w:World,Below w4.heap.size w4 w→w.cell? ⟨g,off+k*2,none⟩=some (.int .i64 at')∧w.cell? ⟨g,off+k*2+1,none⟩=some (.slice ua pw.length uc)):=fun w hb =>
      ⟨jQ hb HS40.out.1,jQ hb HS40.out.2⟩
     have hmb:pw.length≤140737488355328:=HSb.out _ (jM Ht.out)
     go_region_held3 (fun w=>w.cell? ⟨g,off+k*2,none⟩=some (.int .i64 at')∧w.cell? ⟨g,off+k*2+1,none⟩=some (.slice ua pw.length uc))
      (first | exact HSS.out _ HBr.out | exact HSS.out _ HBr.out.drew | exact HSS.out _ (HBr.out.alloc HBr.out.size _) | exact HSS.out _ (HBr.out.drew.alloc HBr.out.size _) | exact HSS.out _ HC8.out | exact HSS.out _ (HC8.out.alloc HC8.out.size _) | exact HSS.out _ HC9.out)
      (first
        | (refine stepP_I (by rfl) (.tmp 44) (.tmp 49) (by rfl) wr.heap.size (by rfl) (jD wr.drew _) _ (by rfl) pw (HU.out.below ((Below.refl _ _).drew.alloc (jR _) _)) hmb ?_; intro b8 p8 w8 K8 G8
           have HB8:Hid (Below wr.heap.size wr w8):=below_grown ((Below.refl _ _).drew.alloc (jR _) _) (jR _) G8
           have HC8:Hid (Below w4.heap.size w4 w8):=Below.trans' HBr.out HB8.out
           have HK8:=jH K8
           clear K8 G8)
        | (refine step_S1 (by rfl) (.tmp 38) (.tmp 52) (by rfl) u7 (S.take k).length (stv (S.take k) us) (by rfl) (zJ Hrow.out (Below.trans' HB8.out (jV w8 _).out)) w8.heap.size at' (.slice (some ⟨b8,0,none⟩) pw.length p8) (by rfl) (by rfl) (jD w8 _) hbk _ (by rfl) ?_; intro g9 c9 w9 K9 G9 A9 L9
           have HC9:Hid (Below w4.heap.size w4 w9):=below_grownO (HC8.out.alloc HC8.out.size _) Hown.out G9
           have HG9:Hid (GRow w4.heap.size w9 (.slice (some ⟨g9,0,none⟩) ((S.take k).length+1) c9) (S.take (k+1))):=by
            show GRow _ _ _ _
            rw[Htk.out]
            refine GRow.snoc (s:=(at',pw)) Hul.out (fun i u s h1 h2=>jK (Hus.out i u s h1 h2) (Below.trans' HB8.out (jV w8 _).out)) (jK HK8.out (jV w8 _).out) (fun b e=>⟨Hown.out b e,?_⟩) (HC8.out.alloc HC8.out.size _).size K9 G9 A9
            obtain⟨c',hc'⟩:=jO Hrow.out e
            exact⟨c',Below.here (Below.trans' HB8.out (jV w8 _).out) hc'⟩
           clear K9 G9 A9 L9))
     all_goals
      go_wp2_with fail
      go_roundg (sn - (k+1))
      case measure=>omega
      case rel=>exact⟨k+1,by go_num,by omega,by omega,HC9,by have h:=HG9; simp only[List.length_take] at h; exact h⟩
    ·have hkz:¬ ((k:Int)<(sn:Int)):=by omega
     have hkz2:decide ((k:Int)<(sn:Int))=false:=by rw[decide_eq_false_iff_not];exact hkz
     have HG4:Hid (GRow w4.heap.size wr u7 S):=by
      have h:=HG.out
      rwa [List.take_of_length_le (by have:=Hsn.out; omega)] at h
     obtain⟨wA,rfl⟩:∃ w,w=wr:=⟨_,rfl⟩
     have HSr:=jH (HG4.out.srd HZ.out)
     have hC:=HCk.out wA u7 HSr.out
     clear hg1 hkn hk HG
     go_wp2_with fail
     refine hC.mono ?_
     rintro e w5 ⟨qu,qv,qm,rfl,hb5,hie5⟩
     dsimp only at hie5 ⊢
     obtain⟨w6,hw6⟩:∃ w6,w5.alloc (.cells #[.pointer qu,.pointer qv,.pointer qm] 28)=w6:=⟨_,rfl⟩
     obtain⟨D10,hD10⟩:∃ D,w5.heap.size=D:=⟨_,rfl⟩
     have hbl6:Below w5.heap.size w5 w6:=by rw[← hw6];exact (jV w5 _).out
     have HX6:Hid (w6.heap[D10]? = some (.cells #[.pointer qu,.pointer qv,.pointer qm] 28 (0,0))):=by show _=_; rw[← hw6,← hD10];exact jD w5 _
     have HB6:Hid (Below w4.heap.size w4 w6):=Below.trans' (Below.trans' HBr.out hb5.out) hbl6
     have HE6:Hid (IsE w6 (.agg #[.pointer qu,.pointer qv,.pointer qm]) x):=IsE.below hie5.out hbl6
     have HS6:=jH ((HSr.out.below hb5.out).below hbl6)
     clear hC hb5 hie5 hbl6
     go_wp2_with fail
     go_loopg [12] sn (fun g1 v12 wr=>∃ k:Nat,v12=.int .i64 k∧k≤sn∧sn - k≤g1∧Hid (Below w6.heap.size w6 wr))
     case atStart=>exact⟨0,rfl,Nat.zero_le _,jR _,Below.refl _ _⟩
     case round =>
      obtain⟨k,rfl,hkn,hg1,HBr2⟩:=hrel
      by_cases hk:k<sn
      ·have hkz:(k:Int)<(sn:Int):=by omega
       have hk0:(0:Int)≤(k:Int):=Int.natCast_nonneg k
       have hk1:((k:Int)).toNat=k:=by omega
       have hkw:IntKind.i64.wrap ((k:Int)+1)=(k:Int)+1:=IntWalk.i64_in _ (by have:=Hn.out; omega)
       obtain⟨t,ht⟩:∃ t,S[k]? = some t:=⟨_,jG (by have:=Hsn.out; omega)⟩
       obtain⟨a',c',e0,hall⟩:=HVb.out wr (Below.trans' HB6.out HBr2.out)
       obtain⟨ea,-,-⟩:=Value.slice.inj e0
       subst ea
       obtain⟨hbd,g,off,u,rfl,s0,s1,hu⟩:=hall k t ht
       obtain⟨a7,c7,e7,hall7⟩:=HS6.out.below HBr2.out
       rw[← Hsn.out] at e7
       subst e7
       obtain⟨-,g7,u7,rfl,s70,s71,hu7⟩:=hall7 k t ht
       obtain⟨at',pw⟩:=t
       dsimp only at s0 hu hbd s70 hu7
       obtain⟨ua,uc,hue⟩:=hu.shape
       subst hue
       obtain⟨ua7,uc7,hue7⟩:=ja hu7
       subst hue7
       have cv1:=fun n=>conv_Id hu n
       have cv2:∀ n,(Go.convert 40 9 (.slice ua7 pw.length uc7)).run Tryz.prog (wr.drewN n)=.ok (.string ⟨pw.toArray⟩) (wr.drewN n):=fun n=>zh hu7 (W':=wr.drewN n) (fun _ _=>rfl)
       clear hu hu7 ht hall hall7 e0
       go_wp2_with fail
       go_quiet (fail)
       go_wp2_with fail
       go_roundg (sn - (k+1))
       case measure=>omega
       case rel=>exact⟨k+1,by go_num,by omega,by omega,Below.trans' HBr2.out (qp _ _).out⟩
      ·have hkz:¬ ((k:Int)<(sn:Int)):=by omega
       have hkz2:decide ((k:Int)<(sn:Int))=false:=by rw[decide_eq_false_iff_not];exact hkz
       have hS:=jx wr
       clear hg1 hkn hk
       go_wp2_with fail
       refine hS.mono ?_
       rintro e w7 ⟨rfl,hb7⟩
       have HB7:=jH (Below.trans' HBr2.out hb7.out)
       have HR7:=jH (HR4.out.below (Below.trans' HB6.out HB7.out))
       have HE7:=jH (IsE.below HE6.out HB7.out)
       have hL:=like_calls HR7.out HE7.out Ho4.out.1
       have c0:w7.cell? ⟨D10,0,none⟩=some (.pointer qu):=by rw[jB (Below.here HB7.out HX6.out)];rfl
       have c1:w7.cell? ⟨D10,1,none⟩=some (.pointer qv):=by rw[jB (Below.here HB7.out HX6.out)];rfl
       have c2:w7.cell? ⟨D10,2,none⟩=some (.pointer qm):=by rw[jB (Below.here HB7.out HX6.out)];rfl
       have HY7:=jH (Below.here (Below.trans' HB6.out HB7.out) HY4.out)
       have d1:w7.cell? ⟨D6,1,none⟩=some (.int .i64 (left:Nat)):=by rw[jB HY7.out];rfl
       have d2:w7.cell? ⟨D6,2,none⟩=some (.int .i64 (eu:Nat)):=by rw[jB HY7.out];rfl
       have d3:w7.cell? ⟨D6,3,none⟩=some (.int .i64 (ev:Nat)):=by rw[jB HY7.out];rfl
       have d4:w7.cell? ⟨D6,4,none⟩=some (.int .i64 (em:Nat)):=by rw[jB HY7.out];rfl
       have d5:w7.cell? ⟨D6,5,none⟩=some (.int .i64 er):=by rw[jB HY7.out];rfl
       have HB8:Hid (Below W.heap.size W w7):=Below.trans' HB4.out (Below.trans' HB6.out HB7.out)
       clear hS hb7
       go_wp2_with fail
       refine hL.mono ?_
       rintro e w8 ⟨rfl,hb8⟩
       go_wp2_with fail
       go_ret
       exact⟨by first | rfl | simp,Below.trans' HB8.out hb8.out⟩
 ·by_cases ha:130<s.size
  ·have q2:decide ((130:Int)<(s.size:Int))=true:=by rw[decide_eq_true_eq];omega
   by_cases hb:s.size≤400
   ·have q3:decide ((s.size:Int)≤400)=true:=by rw[decide_eq_true_eq];omega
    have hS:=jx W
    go_enter Tryz.func8,Tryz.ntmps8
    go_wp2_with fail
    refine hS.mono ?_
    rintro e w1 ⟨rfl,hb1⟩
    go_wp2_with fail
    go_ret
    exact⟨rfl,hb1⟩
   ·have q3:decide ((s.size:Int)≤400)=false:=by rw[decide_eq_false_iff_not];omega
    have q4:decide ((200:Int)<(sn:Int))=true:=by rw[decide_eq_true_eq];omega
    have hS:=jx W
    go_enter Tryz.func8,Tryz.ntmps8
    go_wp2_with fail
    refine hS.mono ?_
    rintro e w1 ⟨rfl,hb1⟩
    go_wp2_with fail
    go_ret
    exact⟨rfl,hb1⟩
  ·have q2:decide ((130:Int)<(s.size:Int))=false:=by rw[decide_eq_false_iff_not];omega
   have q4:decide ((200:Int)<(sn:Int))=true:=by rw[decide_eq_true_eq];omega
   clear hz ha
   have hS:=jx W
   go_enter Tryz.func8,Tryz.ntmps8
   go_wp2_with fail
   refine hS.mono ?_
   rintro e w1 ⟨rfl,hb1⟩
   go_wp2_with fail
   go_ret
   exact⟨rfl,hb1⟩
end Sr
