/- Texts of this claim, joined: Sane. -/
import Derived.Test.YtabafgphmbdpgaaGreatDoorTd1
import Derived.Test.YtabafgphmbdpgaaGreatDoorTd31
import Derived.Test.YtabafgphmbdpgaaGreatDoorTd32
set_option maxHeartbeats 8000000
set_option maxRecDepth 100000
namespace Sr
open Go Go.Proofs Go.RowKit Go.Maps Go.WideMaps
theorem prodE_rel:prodE [2,0,3,1,1]=Zero:=by
 have e:prodE [2,0,3,1,1]=timesE (timesE (timesE (timesE (timesE Zero ⟨0,0,1⟩) ⟨1,0,0⟩) ⟨0,0,-1⟩) ⟨-1,0,0⟩) ⟨-1,0,0⟩:=rfl
 rw[e]
 refine yI (qH _ _) (.inl ⟨rfl,rfl⟩) ?_ ?_
 ·simp[zw]
 ·simp only[yH,zw]
  simp only[tq,qW,tp_one,Int.zero_add,Int.add_zero]
  simp[qW]
  grind
theorem mul_ex:timesE ⟨1,0,0⟩ ⟨0,0,1⟩=⟨1,0,1⟩:=by
 refine yI (qH _ _) (.inr rfl) ?_ ?_
 ·simp[zw]
 ·rw[yH];simp[tq,qW]
  grind
theorem mul_ok:TimesOK ⟨1,0,0⟩ ⟨0,0,1⟩:=(lat_times (lat_a 1 (.inl rfl)) (lat_t 1 (.inl rfl)) (by omega)).1
theorem ab_trace:∃ G,traceE [97,98]=some ([],[98],G):=by
 have h:(readE [97,98]).1=[98]:=rfl
 exact⟨_,by unfold traceE; rw[zU (by rw[h];simp),h]⟩
theorem rel_bytes:(⟨#[98,97,66,97,98,65,66,65,65]⟩:ByteArray).data.toList=wordL [2,0,3,1,1]:=by decide
theorem jx (W:World): Calls Tryz.prog 13 #[] W fun e W'=>e=.returned (.bool true)∧Hid (Below W.heap.size W W'):=by
 obtain⟨st,hin,hst⟩:=inner_law [2,0,3,1,1] (by decide)
 rw[prodE_rel] at hin
 have HIn:Hid (traceE (⟨#[98,97,66,97,98,65,66,65,65]⟩:ByteArray).data.toList=some (st,[],[Zero])):=by show _=_; rw[rel_bytes];exact hin
 have HSt:Hid (st.length=2):=by show _=_; rw[hst];decide
 have HWr:Hid (isWordL (⟨#[98,97,66,97,98,65,66,65,65]⟩:ByteArray).data.toList=true):=by show _=_; decide
 have HWa:Hid (isWordL (⟨#[97,98]⟩:ByteArray).data.toList=true):=by show _=_; decide
 have HWc:Hid (isWordL (⟨#[97,98,99]⟩:ByteArray).data.toList=false):=by show _=_; decide
 have hTr:=Trace_any (W:=W) (s:=⟨#[98,97,66,97,98,65,66,65,65]⟩) (by decide)
 clear hin hst
 go_enter Tryz.func13,Tryz.ntmps13
 go_wp2_with fail
 refine hTr.mono ?_
 rintro e w1 ⟨hb1,hcase⟩
 have HB1:=jH hb1.out
 obtain⟨sa,sc,qu,qv,qm,he,hie⟩:∃ sa sc qu qv qm,e=.returned (.tuple #[.slice sa 2 sc,.int .i64 0,.agg #[.pointer qu,.pointer qv,.pointer qm],.int .i64 0])∧IsE w1 (.agg #[.pointer qu,.pointer qv,.pointer qm]) Zero:=by
  rcases hcase with ⟨h,-⟩ | ⟨-,h,-⟩ | ⟨-,st',o,G,h,sa,sn,sc,qu,qv,qm,he,hs,hi⟩
  ·rw[HWr.out] at h; cases h
  ·rw[HIn.out] at h; cases h
  ·rw[HIn.out] at h; cases h
   obtain⟨vs,k1,k2,k3⟩:=hs.out.row
   obtain⟨a,c,hsh⟩:=ja k2
   cases hsh
   rw[HSt.out] at he
   exact⟨_,_,qu,qv,qm,he,hi.out⟩
 subst he
 have HIE:=jH hie
 clear hTr hb1 hcase hie
 have hUn:=Unit_any (W:=w1.alloc (.cells #[.pointer qu,.pointer qv,.pointer qm] 28)) (s:=⟨#[98,97,66,97,98,65,66,65,65]⟩) (by decide)
 have HB2:Hid (Below W.heap.size W (w1.alloc (.cells #[.pointer qu,.pointer qv,.pointer qm] 28))):=HB1.out.alloc HB1.out.size _
 have HH2:=jH ((Has.nil w1).add #[.pointer qu,.pointer qv,.pointer qm] 28)
 have HIE2:=jH (HIE.out.below ((Below.refl _ _).alloc (jR _) (.cells #[.pointer qu,.pointer qv,.pointer qm] 28)))
 go_wp2_with fail
 refine hUn.mono ?_
 rintro e w3 ⟨hb3,hcase⟩
 have he:e=.returned (.tuple #[.bool true,.int .i64 0]):=by
  rcases hcase with ⟨h,-⟩ | ⟨-,⟨st',o,G,h,he⟩ | ⟨h,-⟩⟩
  ·rw[HWr.out] at h; cases h
  ·rw[HIn.out] at h; cases h
   exact he
  ·rw[HIn.out] at h; cases h
 subst he
 have HB3:=jH (Below.trans' HB2.out hb3.out)
 have HH3:=jH (HH2.out.below hb3.out)
 have HIE3:=jH (HIE2.out.below hb3.out)
 clear hUn hb3 hcase
 have hUa:=Unit_any (W:=w3) (s:=⟨#[97,98]⟩) (by decide)
 go_wp2_with fail
 refine hUa.mono ?_
 rintro e w4 ⟨hb4,hcase⟩
 have he:e=.returned (.tuple #[.bool false,.int .i64 0]):=by
  obtain⟨G',hab⟩:=ab_trace
  rcases hcase with ⟨h,-⟩ | ⟨-,⟨st',o,G,h,he⟩ | ⟨h,-⟩⟩
  ·rw[HWa.out] at h; cases h
  ·have h':=h.symm.trans hab
   cases h'
   exact he
  ·have h':=h.symm.trans hab
   cases h'
 subst he
 have HB4:=jH (Below.trans' HB3.out hb4.out)
 have HH4:=jH (HH3.out.below hb4.out)
 have HIE4:=jH (HIE3.out.below hb4.out)
 clear hUa hb4 hcase
 have hO1:=Of_calls 1 (by decide) (by decide) w4
 go_wp2_with fail
 refine hO1.mono ?_
 rintro e w5 ⟨q5,rfl,hi5,hb5⟩
 have HB5:=jH (Below.trans' HB4.out hb5.out)
 have HH5:=jH (HH4.out.below hb5.out)
 have HIE5:=jH (HIE4.out.below hb5.out)
 have HI5:=jH hi5.out
 clear hO1 hb5 hi5
 have hO2:=Of_calls 1 (by decide) (by decide) w5
 go_wp2_with fail
 refine hO2.mono ?_
 rintro e w6 ⟨q6,rfl,hi6,hb6⟩
 have HB6:=jH (Below.trans' HB5.out hb6.out)
 have HH6:=jH (HH5.out.below hb6.out)
 have HIE6:=jH (HIE5.out.below hb6.out)
 have HI56:=jH (HI5.out.below hb6.out)
 have HI6:=jH hi6.out
 clear hO2 hb6 hi6
 have hMu:=Mul_calls (W:=w6) (V1:=.agg #[.pointer q5,.pointer none,.pointer none]) (V2:=.agg #[.pointer none,.pointer none,.pointer q6]) (x:=⟨1,0,0⟩) (y:=⟨0,0,1⟩) ⟨q5,none,none,rfl,HI56.out,j4 _,j4 _⟩ ⟨none,none,q6,rfl,j4 _,j4 _,HI6.out⟩ mul_ok
 go_wp2_with fail
 refine hMu.mono ?_
 rintro e w7 ⟨pu,pv,pm,rfl,hi7,hb7⟩
 have HB7:=jH (Below.trans' HB6.out hb7.out)
 have HH7:=jH (HH6.out.below hb7.out)
 have HIE7:=jH (HIE6.out.below hb7.out)
 have HX7:Hid (IsE w7 (.agg #[.pointer pu,.pointer pv,.pointer pm]) ⟨1,0,1⟩):=by
  show IsE _ _ _
  rw[← mul_ex];exact hi7.out
 clear hMu hb7 hi7
 have HD8:Hid (Below w7.heap.size w7 (w7.alloc (.cells #[.pointer pu,.pointer pv,.pointer pm] 28))):=(Below.refl _ _).alloc (jR _) _
 have HB8:=jH (Below.trans' HB7.out HD8.out)
 have HH8:=jH (HH7.out.add #[.pointer pu,.pointer pv,.pointer pm] 28)
 have HIE8:=jH (HIE7.out.below HD8.out)
 have HX8:=jH (HX7.out.below HD8.out)
 have hUc:=Unit_any (W:=w7.alloc (.cells #[.pointer pu,.pointer pv,.pointer pm] 28)) (s:=⟨#[97,98,99]⟩) (by decide)
 go_wp2_with fail
 refine hUc.mono ?_
 rintro e w9 ⟨hb9,hcase⟩
 have he:e=.returned (.tuple #[.bool false,.int .i64 2]):=by
  rcases hcase with ⟨-,he⟩ | ⟨h,-⟩
  ·exact he
  ·rw[HWc.out] at h; cases h
 subst he
 have HB9:=jH (Below.trans' HB8.out hb9.out)
 have HH9:=jH (HH8.out.below hb9.out)
 have HIE9:=jH (HIE8.out.below hb9.out)
 have HX9:=jH (HX8.out.below hb9.out)
 clear hUc hb9 hcase
 go_wp2_with fail
 have HK:Hid (∀ w':World,Below w9.heap.size w9 w'→w'.cell? ⟨w1.heap.size,2,none⟩=some (.pointer qm)∧w'.cell? ⟨w7.heap.size,2,none⟩=some (.pointer pm)∧w'.cell? ⟨w7.heap.size,0,none⟩=some (.pointer pu)∧w'.cell? ⟨w7.heap.size,1,none⟩=some (.pointer pv)):=fun w' hb=>by
  have h:=HH9.out.below hb
  exact⟨h.cell (b:=w1.heap.size) (c:=#[.pointer qu,.pointer qv,.pointer qm]) (T:=28) (by simp) 2,h.cell (b:=w7.heap.size) (c:=#[.pointer pu,.pointer pv,.pointer pm]) (T:=28) (by simp) 2,h.cell (b:=w7.heap.size) (c:=#[.pointer pu,.pointer pv,.pointer pm]) (T:=28) (by simp) 0,h.cell (b:=w7.heap.size) (c:=#[.pointer pu,.pointer pv,.pointer pm]) (T:=28) (by simp) 1⟩
 obtain⟨iu,iv,im⟩:=IsE.parts (t:=⟨qu,qv,qm⟩) HIE9.out
 obtain⟨ju,jv,jm⟩:=IsE.parts (t:=⟨pu,pv,pm⟩) HX9.out
 have h0:isg (0:Int)=0:=by simp[isg]
 have hSA:∀ w',Below w9.heap.size w9 w'→Calls Tryz.prog 30 #[.agg #[.pointer qm]] w' fun e w''=>e=.returned (.int .i64 0)∧Hid (Below w9.heap.size w9 w''):=fun w' hb =>
  (qQ (im.below hb)).mono fun e w'' ⟨h1,h2⟩=>⟨by rw[h1,h0],Below.trans' hb h2.out⟩
 have hSB:∀ w',Below w9.heap.size w9 w'→Calls Tryz.prog 30 #[.agg #[.pointer pv]] w' fun e w''=>e=.returned (.int .i64 0)∧Hid (Below w9.heap.size w9 w''):=fun w' hb =>
  (qQ (jv.below hb)).mono fun e w'' ⟨h1,h2⟩=>⟨by rw[h1,h0],Below.trans' hb h2.out⟩
 have hOf:∀ w',Below w9.heap.size w9 w'→Calls Tryz.prog 20 #[.int .i64 1] w' fun e w''=>∃ q,e=.returned (.agg #[.pointer q])∧Hid (IsN w'' (.agg #[.pointer q]) 1)∧Hid (Below w9.heap.size w9 w''):=fun w' hb =>
  (Of_calls 1 (by decide) (by decide) w').mono fun e w'' ⟨q,h1,h2,h3⟩=>⟨q,h1,h2,Below.trans' hb h3.out⟩
 have hCA:∀ w' q,Below w9.heap.size w9 w'→IsN w' (.agg #[.pointer q]) 1→Calls Tryz.prog 31 #[.agg #[.pointer pm],.agg #[.pointer q]] w' fun e w''=>e=.returned (.int .i64 0)∧Hid (Below w9.heap.size w9 w''):=fun w' q hb hq =>
  (yF (jm.below hb) hq).mono fun e w'' ⟨h1,h2⟩=>⟨by rw[h1];rw[show isg ((⟨1,0,1⟩:E3).m - 1)=0 from by simp[isg]],Below.trans' hb h2.out⟩
 have hCB:∀ w' q,Below w9.heap.size w9 w'→IsN w' (.agg #[.pointer q]) 1→Calls Tryz.prog 31 #[.agg #[.pointer pu],.agg #[.pointer q]] w' fun e w''=>e=.returned (.int .i64 0)∧Hid (Below w9.heap.size w9 w''):=fun w' q hb hq =>
  (yF (ju.below hb) hq).mono fun e w'' ⟨h1,h2⟩=>⟨by rw[h1];rw[show isg ((⟨1,0,1⟩:E3).u - 1)=0 from by simp[isg]],Below.trans' hb h2.out⟩
 have HSA:=jH hSA
 have HSB:=jH hSB
 have HOf:=jH hOf
 have HCA:=jH hCA
 have HCB:=jH hCB
 have HBd:Hid (Below w9.heap.size w9 w9.drew):=(Below.refl _ _).drew
 clear hSA hSB hOf hCA hCB iu iv im ju jv jm h0
 go_region_held2 (fun w'=>w'.cell? ⟨w1.heap.size,2,none⟩=some (.pointer qm)∧w'.cell? ⟨w7.heap.size,2,none⟩=some (.pointer pm)∧w'.cell? ⟨w7.heap.size,0,none⟩=some (.pointer pu)∧w'.cell? ⟨w7.heap.size,1,none⟩=some (.pointer pv))
  (first | exact HK.out _ HB26.out | exact HK.out _ HB25.out | exact HK.out _ HB24.out | exact HK.out _ HB23.out | exact HK.out _ HB22.out | exact HK.out _ HB21.out | exact HK.out _ HBd.out)
  (first
    | (go_at_call 30; (with_reducible refine (HSB.out _ HB25.out).mono ?_);rintro e w26 ⟨rfl,HB26⟩)
    | (go_at_call 31; (with_reducible refine (HCB.out _ _ HB24.out HI24.out).mono ?_);rintro e w25 ⟨rfl,HB25⟩)
    | (go_at_call 20; (with_reducible refine (HOf.out _ HB23.out).mono ?_);rintro e w24 ⟨q24,rfl,HI24,HB24⟩)
    | (go_at_call 31; (with_reducible refine (HCA.out _ _ HB22.out HI22.out).mono ?_);rintro e w23 ⟨rfl,HB23⟩)
    | (go_at_call 20; (with_reducible refine (HOf.out _ HB21.out).mono ?_);rintro e w22 ⟨q22,rfl,HI22,HB22⟩)
    | (go_at_call 30; (with_reducible refine (HSA.out _ HBd.out).mono ?_);rintro e w21 ⟨rfl,HB21⟩))
 all_goals
  go_wp2_with fail
  go_ret
  exact⟨rfl,Below.trans' HB9.out HB26.out⟩
end Sr
