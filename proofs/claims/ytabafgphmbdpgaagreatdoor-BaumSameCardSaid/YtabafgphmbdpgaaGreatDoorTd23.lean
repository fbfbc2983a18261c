/- Texts of this claim, joined: Must, Times, RMul. -/
import Derived.Test.YtabafgphmbdpgaaGreatDoorTd1
import Derived.Test.YtabafgphmbdpgaaGreatDoorTd21
import Derived.Test.YtabafgphmbdpgaaGreatDoorTd22
import Derived.Recover
import Derived.WalkSmall
import Derived.WalkLawsBesides
import Derived.Deep.RegionHeld2
set_option maxHeartbeats 8000000
set_option maxRecDepth 100000
namespace Sr
open Go Go.Proofs Go.RowKit Go.Maps Go.WideMaps
section
variable {W w:World}
theorem must_ok (q:Option Addr): Calls Tryz.prog 89 #[.agg #[.pointer q],.int .i64 0] W fun e W'=>e=.returned (.agg #[.pointer q])∧Hid (Below W.heap.size W W'):=by
 go_enter Tryz.func89,Tryz.ntmps89
 go_wp2_with fail
 refine bodyPost_ret (v:=.agg #[.pointer q]) (by simp[results,Tryz.results89,go_sem]) rfl ?_
 exact⟨rfl,((Below.refl _ _).alloc (jR _) _).alloc (by simp) _⟩
def pan (n:Int): Ending:=.panicked [{ v:=.iface 29 (.int .i64 n),recovered:=false }]
theorem must_bad (q:Option Addr){er:Int}(h:(er==0)=false): Calls Tryz.prog 89 #[.agg #[.pointer q],.int .i64 er] W fun e W'=>e=pan er∧Hid (Below W.heap.size W W'):=by
 have h2:decide (er=0)=false:=by simpa using h
 go_enter Tryz.func89,Tryz.ntmps89
 go_wp2_with fail
 exact⟨rfl,rfl,((Below.refl _ _).alloc (jR _) _).alloc (by simp) _⟩
theorem qV (q:Option Addr)(er:Int): Calls Tryz.prog 89 #[.agg #[.pointer q],.int .i64 er] W fun e W'=>(er=0∧e=.returned (.agg #[.pointer q])∨er≠0∧e=pan er)∧Hid (Below W.heap.size W W'):=by
 by_cases h:er=0
 ·subst h; exact (must_ok q).mono fun e w ⟨h1,h2⟩=>⟨.inl ⟨rfl,h1⟩,h2⟩
 ·exact (must_bad q (by simpa using h)).mono fun e w ⟨h1,h2⟩=>⟨.inr ⟨h,h1⟩,h2⟩
structure E3 where
 u:Int
 v:Int
 m:Int
def IsE (w:World)(V:Value)(x:E3): Prop:=∃ qu qv qm,V=.agg #[.pointer qu,.pointer qv,.pointer qm]∧IsN w (.agg #[.pointer qu]) x.u∧IsN w (.agg #[.pointer qv]) x.v∧IsN w (.agg #[.pointer qm]) x.m
theorem IsE.below {w w':World}{V:Value}{x:E3}(h:IsE w V x)(hb:Below w.heap.size w w'): IsE w' V x:=by
 obtain⟨a,b,c,h0,h1,h2,h3⟩:=h
 exact⟨a,b,c,h0,h1.below hb,h2.below hb,h3.below hb⟩
theorem j4 (w:World): IsN w (.agg #[.pointer none]) 0:=⟨jX,.inl ⟨rfl,rfl⟩⟩
def plainE (u v m:Int): E3:=if u=0 then ⟨0,0,m⟩ else ⟨shx u (-(lowE u:Int)),v+lowE u,m⟩
def plainOK (u v:Int): Prop:=u=0∨(allowed (shx u (-(lowE u:Int)))∧allowed (v+lowE u))
theorem NR.below {w w':World}{x:Int}{v:Value}{er:Int}(h:NR w x v er)(hb:Below w.heap.size w w'): NR w' x v er:=by
 rcases h with ⟨h1,h2,h3⟩ | h
 ·exact .inl ⟨h1,h2,h3.below hb⟩
 ·exact .inr h
theorem NR.er {w:World}{x:Int}{q:Option Addr}{er:Int}(h:NR w x (.agg #[.pointer q]) er): (er=0→allowed x∧IsN w (.agg #[.pointer q]) x)∧(er≠0→¬ allowed x∧er=5):=by
 rcases h with ⟨h1,h2,h3⟩ | ⟨h1,h2,h3⟩
 ·exact⟨fun _=>⟨h1,h3⟩,fun h=>absurd h2 h⟩
 ·exact⟨fun h=>by omega,fun _=>⟨h1,h2⟩⟩
theorem NR.yes {x:Int}{q:Option Addr}{er:Int}(h:NR w x (.agg #[.pointer q]) er)(ha:allowed x): er=0∧IsN w (.agg #[.pointer q]) x:=by
 rcases h with h | h
 ·exact h.2
 ·exact absurd ha h.1
theorem last_le:∀ {L:List Nat},L.Pairwise (fun a b=>b+1<a)→∀ e∈L,L.getLastD 0≤e
 | [],_,e,he=>by simp at he
 | [a],_,e,he=>by simp at he; subst he; simp
 | a::b::L,hd,e,he=>by
   have e1:(a::b::L).getLastD 0=(b::L).getLastD 0:=by simp[List.getLastD]
   rw[e1]
   obtain⟨h1,h2⟩:=List.pairwise_cons.1 hd
   rcases List.mem_cons.1 he with rfl | he
   ·have h3:=last_le h2 b (by simp)
    have h4:=h1 b (by simp)
    omega
   ·exact last_le h2 e he
theorem zo {u:Int}: shOK u (-(lowE u:Int)):=by
 intro e he
 have h3:=last_le (exps_desc u) e he
 unfold lowE
 omega
theorem qM {x:Int}: isg x=0↔x=0:=by
 unfold isg; constructor
 ·intro h; split at h
  ·omega
  ·split at h <;>omega
 ·rintro rfl; simp
def PQ (x:E3)(W:World)(e:Ending)(W':World): Prop:=∃ qu qv qm,e=.returned (.agg #[.pointer qu,.pointer qv,.pointer qm])∧Hid (IsE W' (.agg #[.pointer qu,.pointer qv,.pointer qm]) x)∧Hid (Below W.heap.size W W')
def PX (ok:Prop)(x:E3)(W:World)(e:Ending)(W':World): Prop:=(ok∧PQ x W e W')∨(¬ ok∧e=pan 5∧Hid (Below W.heap.size W W'))
def set3 (w:World)(b:Nat)(x y z:Value): World:=((w.setCell ⟨b,0,none⟩ x).setCell ⟨b,1,none⟩ y).setCell ⟨b,2,none⟩ z
theorem ji (w:World){b g:Nat}(h:g≠b)(x y z:Value): (set3 w b x y z).heap[g]? = w.heap[g]? :=
 (jS _ _ _ _ h).trans ((jS _ _ _ _ h).trans (jS _ _ _ _ h))
theorem IsE.store3 {V:Value}{x:E3}(h:IsE w V x){b:Nat}{c:Array Value}{T:TypeId}{fz:Nat×Nat}(hb:w.heap[b]? = some (.cells c T fz))(hT:T≠158∧T≠111∧T≠154:=by decide){p q r:Value}: IsE (((w.setCell ⟨b,0,none⟩ p).setCell ⟨b,1,none⟩ q).setCell ⟨b,2,none⟩ r) V x:=by
 have key:∀ {v:Value} {z:Int},IsN w v z→IsN (set3 w b p q r) v z:=fun {v z} hn=>hn.kept fun g c' T' hg ht=>ji w (jI hg hb (by
  rintro rfl
  rcases ht with ht | ht | ht
  ·exact hT.1 ht
  ·exact hT.2.1 ht
  ·exact hT.2.2 ht)) p q r
 obtain⟨qu,qv,qm,h0,h1,h2,h3⟩:=h
 exact⟨qu,qv,qm,h0,key h1,key h2,key h3⟩
theorem Below.set3 (h:Below W.heap.size W w){b:Nat}(hb:W.heap.size≤b){p q r:Value}: Below W.heap.size W (((w.setCell ⟨b,0,none⟩ p).setCell ⟨b,1,none⟩ q).setCell ⟨b,2,none⟩ r):=((h.setCell hb _).setCell hb _).setCell hb _
theorem yl {a b c:Value}{u v m:Int}(ha:IsN W a u)(hb:IsN W b v)(hc:IsN W c m): Calls Tryz.prog 88 #[a,b,c] W (PX (plainOK u v) (plainE u v m) W):=by
 obtain⟨qa,rfl⟩:=ha.ptr
 obtain⟨qb,rfl⟩:=hb.ptr
 obtain⟨qc,rfl⟩:=hc.ptr
 have HA:=jH ha
 have HB:=jH hb
 have HC:=jH hc
 clear ha hb hc
 obtain⟨W0,hW0⟩:∃ W0,W0=(((W.alloc (.cells #[.pointer qa] 26)).alloc (.cells #[.pointer qb] 26)).alloc (.cells #[.pointer qc] 26)).alloc (.cells #[.pointer none,.pointer none,.pointer none] 28):=⟨_,rfl⟩
 have HW0:=jH hW0
 have HB0:Hid (Below W.heap.size W W0):=by show Below _ _ _; rw[hW0];exact ((((Below.refl _ _).alloc (jR _) _).alloc (by simp) _).alloc (by simp; omega) _).alloc (by simp; omega) _
 have hz0:W.heap.size+4=W0.heap.size:=by rw[hW0];simp
 have X0:Hid (W0.heap[W.heap.size]? = some (.cells #[.pointer qa] 26 (0,0))):=by show _=_; rw[hW0,jE _ _ (by simp <;>omega),jE _ _ (by simp <;>omega),jE _ _ (by simp <;>omega)];exact j7 rfl
 have X1:Hid (W0.heap[W.heap.size+1]? = some (.cells #[.pointer qb] 26 (0,0))):=by show _=_; rw[hW0,jE _ _ (by simp <;>omega),jE _ _ (by simp <;>omega)];exact j7 (by simp)
 have X2:Hid (W0.heap[W.heap.size+1+1]? = some (.cells #[.pointer qc] 26 (0,0))):=by show _=_; rw[hW0,jE _ _ (by simp)];exact j7 (by simp)
 have X3:Hid (W0.heap[W.heap.size+1+1+1]? = some (.cells #[.pointer none,.pointer none,.pointer none] 28 (0,0))):=by show _=_; rw[hW0];exact j7 (by simp)
 have hSg:=qQ (HA.out.below HB0.out)
 clear hW0
 by_cases hu:u=0
 ·subst hu
  have h0:isg 0=0:=by simp[isg]
  rw[h0] at hSg
  have HPe:Hid (plainE 0 v m=⟨0,0,m⟩):=by show _=_; simp[plainE]
  go_enter Tryz.func88,Tryz.ntmps88
  go_wp2_with fail
  rw[show (((W.alloc (.cells #[.pointer qa] 26)).alloc (.cells #[.pointer qb] 26)).alloc (.cells #[.pointer qc] 26)).alloc (.cells #[.pointer none,.pointer none,.pointer none] 28)=W0 from HW0.out.symm]
  refine hSg.mono ?_
  rintro e w1 ⟨rfl,hb1⟩
  clear hSg
  have Y2:=jH (Below.here hb1.out X2.out)
  have Y3:=jH (Below.here hb1.out X3.out)
  have c2:w1.cell? ⟨W.heap.size+1+1,0,none⟩=some (.pointer qc):=by rw[jB Y2.out];rfl
  have c30:w1.cell? ⟨W.heap.size+1+1+1,0,none⟩=some (.pointer none):=by rw[jB Y3.out];rfl
  have c31:w1.cell? ⟨W.heap.size+1+1+1,1,none⟩=some (.pointer none):=by rw[jB Y3.out];rfl
  have c32:w1.cell? ⟨W.heap.size+1+1+1,2,none⟩=some (.pointer none):=by rw[jB Y3.out];rfl
  have f3:∀ o,w1.frozen? ⟨W.heap.size+1+1+1,o,none⟩=false:=fun o=>jF Y3.out o
  have f30:=f3 0
  have f31:=f3 1
  have f32:=f3 2
  clear f3
  go_wp2_with fail
  refine bodyPost_ret (v:=.agg #[.pointer none,.pointer none,.pointer qc]) (by simp[results,Tryz.results88,go_sem,c30,c31,c32]) rfl ?_
  refine .inl ⟨.inl rfl,none,none,qc,rfl,?_,Below.set3 (Below.trans' HB0.out hb1.out) (by omega)⟩
  rw[HPe.out]
  exact IsE.store3 ⟨none,none,qc,rfl,j4 _,j4 _,(HC.out.below HB0.out).below hb1.out⟩ Y3.out
 ·have hsz:=mt qM.1 hu
  have hsz2:(isg u==0)=false:=by simpa using hsz
  go_enter Tryz.func88,Tryz.ntmps88
  go_wp2_with fail
  rw[show (((W.alloc (.cells #[.pointer qa] 26)).alloc (.cells #[.pointer qb] 26)).alloc (.cells #[.pointer qc] 26)).alloc (.cells #[.pointer none,.pointer none,.pointer none] 28)=W0 from HW0.out.symm]
  refine hSg.mono ?_
  rintro e w1 ⟨rfl,hb1⟩
  clear hSg
  have HB1:=jH (Below.trans' HB0.out hb1.out)
  have HBx:=jH hb1.out
  have Y0:=jH (Below.here hb1.out X0.out)
  have c0:w1.cell? ⟨W.heap.size,0,none⟩=some (.pointer qa):=by rw[jB Y0.out];rfl
  have HLow:=Low_calls (HA.out.below HB1.out) hu
  clear hb1
  go_wp2_with fail
  refine HLow.mono ?_
  rintro e w2 ⟨ql,rfl,hil,hb2⟩
  have HMu:=must_ok (W:=w2) ql
  clear HLow
  go_wp2_with fail
  refine HMu.mono ?_
  rintro e w3 ⟨rfl,hb3⟩
  have HB3:=jH (Below.trans' hb2.out hb3.out)
  have HIl:=jH (hil.out.below hb3.out)
  clear HMu c0 hil hb2 hb3
  go_wp2_with fail
  obtain⟨w4,hw4⟩:∃ w4,w4=w3.alloc (.cells #[.pointer ql] 26):=⟨_,rfl⟩
  rw[← hw4]
  have HB4:Hid (Below w1.heap.size w1 w4):=by show Below _ _ _; rw[hw4];exact HB3.out.alloc HB3.out.size _
  have X7:Hid (w4.heap[w3.heap.size]? = some (.cells #[.pointer ql] 26 (0,0))):=by show _=_; rw[hw4];exact jD w3 _
  have HIl4:Hid (IsN w4 (.agg #[.pointer ql]) (lowE u:Int)):=by show IsN _ _ _; rw[hw4];exact HIl.out.below ((Below.refl _ _).alloc (jR _) _)
  have HB4W:=jH (Below.trans' HB1.out HB4.out)
  have HB40:=jH (Below.trans' HBx.out HB4.out)
  have HK:Hid (∀ w',Below w4.heap.size w4 w'→w'.cell? ⟨W.heap.size,0,none⟩=some (.pointer qa)∧w'.cell? ⟨w3.heap.size,0,none⟩=some (.pointer ql)∧w'.cell? ⟨W.heap.size+1,0,none⟩=some (.pointer qb)∧w'.cell? ⟨W.heap.size+1+1,0,none⟩=some (.pointer qc)):=fun w' hb =>
   ⟨by rw[jB (Below.here hb (Below.here HB40.out X0.out))];rfl,by rw[jB (Below.here hb X7.out)];rfl,by rw[jB (Below.here hb (Below.here HB40.out X1.out))];rfl,by rw[jB (Below.here hb (Below.here HB40.out X2.out))];rfl⟩
  have hK0:=HK.out w4.drew ((Below.refl _ _).drew)
  have HNeg:∀ w,Below w4.heap.size w4 w→Calls Tryz.prog 87 #[.agg #[.pointer ql]] w fun e w'=>∃ q,e=.returned (.agg #[.pointer q])∧Hid (IsN w' (.agg #[.pointer q]) (-(lowE u:Int)))∧Hid (Below w4.heap.size w4 w')∧Hid (Below w.heap.size w w'):=fun w hb =>
   (Neg_calls (HIl4.out.below hb)).mono fun e w' ⟨q,h1,h2,h3⟩=>⟨q,h1,h2,Below.trans' hb h3.out,h3⟩
  have HSh:∀ q5 w,Below w4.heap.size w4 w→IsN w (.agg #[.pointer q5]) (-(lowE u:Int))→Calls Tryz.prog 28 #[.agg #[.pointer qa],.agg #[.pointer q5]] w fun e w'=>∃ q er,e=.returned (.tuple #[.agg #[.pointer q],.int .i64 er])∧Hid (NR w' (shx u (-(lowE u:Int))) (.agg #[.pointer q]) er)∧Hid (Below w4.heap.size w4 w')∧Hid (Below w.heap.size w w'):=fun q5 w hb hi =>
   (z6 (HA.out.below (Below.trans' HB4W.out hb)) hi).mono fun e w' ⟨q,er,h1,h2,h3⟩=>by
     rcases h3.out with h | h
     ·exact⟨q,er,h1,h.2,Below.trans' hb h2.out,h2⟩
     ·exact absurd zo h.1
  have HMu:∀ q er w z,Below w4.heap.size w4 w→NR w z (.agg #[.pointer q]) er→Calls Tryz.prog 89 #[.agg #[.pointer q],.int .i64 er] w fun e w'=>((e=.returned (.agg #[.pointer q])∧Hid (allowed z)∧Hid (IsN w' (.agg #[.pointer q]) z))∨(Hid (¬ allowed z)∧e=pan 5))∧Hid (Below w4.heap.size w4 w')∧Hid (Below w.heap.size w w'):=fun q er w z hb hi =>
   (qV q er).mono fun e w' ⟨h1,h2⟩=>by
     refine⟨?_,Below.trans' hb h2.out,h2⟩
     rcases h1 with ⟨h3,h4⟩ | ⟨h3,h4⟩
     ·exact .inl ⟨h4,(hi.er.1 h3).1,(hi.er.1 h3).2.below h2.out⟩
     ·exact .inr ⟨(hi.er.2 h3).1,(hi.er.2 h3).2▸h4⟩
  have hbd:Below w4.heap.size w4 w4.drew:=(Below.refl _ _).drew
  have HMH:=jH HMu
  have HSH:=jH HSh
  have HNH:=jH HNeg
  have HBd:=jH hbd
  clear hw4 HMu HSh HNeg hbd hK0
  go_wp2_with fail
  go_region_held2 (fun w'=>w'.cell? ⟨W.heap.size,0,none⟩=some (.pointer qa)∧w'.cell? ⟨w3.heap.size,0,none⟩=some (.pointer ql))
   (first
     | exact⟨(HK.out _ HBd.out).1,(HK.out _ HBd.out).2.1⟩
     | exact⟨(HK.out _ (HBd.out.alloc HBd.out.size _)).1,(HK.out _ (HBd.out.alloc HBd.out.size _)).2.1⟩
     | exact⟨(HK.out _ HB5.out).1,(HK.out _ HB5.out).2.1⟩
     | exact⟨(HK.out _ (HB5.out.alloc HB5.out.size _)).1,(HK.out _ (HB5.out.alloc HB5.out.size _)).2.1⟩
     | exact⟨(HK.out _ HB6.out).1,(HK.out _ HB6.out).2.1⟩
     | exact⟨(HK.out _ (HB6.out.alloc HB6.out.size _)).1,(HK.out _ (HB6.out.alloc HB6.out.size _)).2.1⟩
     | exact⟨(HK.out _ HB7.out).1,(HK.out _ HB7.out).2.1⟩
     | exact⟨(HK.out _ (HB7.out.alloc HB7.out.size _)).1,(HK.out _ (HB7.out.alloc HB7.out.size _)).2.1⟩
     | exact⟨(HK.out _ (HB7.out.setCell (by first | exact HB6.out.size | exact HB5.out.size | exact jR _) _)).1,(HK.out _ (HB7.out.setCell (by first | exact HB6.out.size | exact HB5.out.size | exact jR _) _)).2.1⟩)
   (first
     | (go_at_call 87
        refine Calls.mono (HNH.out _ ?_) ?_
        ·first | exact HBd.out | exact HBd.out.alloc HBd.out.size _
        rintro e w5 ⟨q5,rfl,HI5,HB5,HW5⟩
        first | (have H85:=jH (Below.here HW5.out (jD _ (.cells #[.pointer none] 26)))) | skip)
     | (go_at_call 28
        refine Calls.mono (HSH.out _ _ ?_ ?_) ?_
        ·first | exact HB5.out | exact HB5.out.alloc HB5.out.size _
        ·first | exact HI5.out | exact HI5.out.below ((Below.refl _ _).alloc (jR _) _)
        rintro e w6 ⟨q6,er6,rfl,HI6,HB6,HW6⟩
        first | (have H86:=jH (Below.here HW6.out H85.out)) | (have H86:=jH (Below.here HW6.out (jD w5 (.cells #[.pointer none] 26)))) | skip)
     | (go_at_call 89
        refine Calls.mono (HMH.out _ _ _ (shx u (-(lowE u:Int))) ?_ ?_) ?_
        ·first | exact HB6.out | exact HB6.out.alloc HB6.out.size _
        ·first | exact HI6.out | exact HI6.out.below ((Below.refl _ _).alloc (jR _) _)
        rintro e w7 ⟨⟨rfl,HA7,HI7⟩ | ⟨HA7,rfl⟩,HB7,HW7⟩
        rotate_left
        ·refine And.intro rfl ?_
         exact Or.inr ⟨fun h=>h.elim (fun h=>hu h) (fun h=>HA7.out h.1),rfl,Below.trans' HB4W.out HB7.out⟩
        first | (have H87:=jH (Below.here HW7.out H86.out)) | (have H87:=jH (Below.here HW7.out (jD w6 (.cells #[.pointer none] 26)))) | skip
        first | (have f8:=jF H87.out 0; have c8:=jB H87.out 0; simp only[List.getElem?_toArray,List.getElem?_cons_zero] at c8) | skip))
  all_goals
   first
    | (change Exit.then _ _ _ _ (w7.alloc (.cells #[.pointer q6] 26))
       have hx8:=jD w7 (.cells #[.pointer q6] 26)
       have hb8:=HB7.out.alloc HB7.out.size (.cells #[.pointer q6] 26)
       have hi8:=HI7.out.below ((Below.refl _ _).alloc (jR _) (.cells #[.pointer q6] 26))
       obtain⟨w8,hw8⟩:∃ w8,w8=w7.alloc (.cells #[.pointer q6] 26):=⟨_,rfl⟩
       obtain⟨b8,hb8'⟩:∃ b8,b8=w7.heap.size:=⟨_,rfl⟩
       rw[← hw8] at hx8 hb8 hi8 ⊢
       rw[← hb8'] at hx8 ⊢
       clear hw8 hb8')
    | (change Exit.then _ _ _ _ (w7.setCell ⟨w6.heap.size,0,none⟩ (.pointer q6))
       have hx8:=heap_setCell_same w7 w6.heap.size 0 _ 26 (.pointer q6) H87.out
       have hb8:=HB7.out.setCell (p:=⟨w6.heap.size,0,none⟩) HB6.out.size (.pointer q6)
       have hi8:=HI7.out.setCell (o:=0) H87.out (by decide) (.pointer q6)
       obtain⟨w8,hw8⟩:∃ w8,w8=w7.setCell ⟨w6.heap.size,0,none⟩ (.pointer q6):=⟨_,rfl⟩
       obtain⟨b8,hb8'⟩:∃ b8,b8=w6.heap.size:=⟨_,rfl⟩
       rw[← hw8] at hx8 hb8 hi8 ⊢
       rw[← hb8'] at hx8 ⊢
       clear hw8 hb8')
    | (change Exit.then _ _ _ _ (w7.setCell ⟨w5.heap.size,0,none⟩ (.pointer q6))
       have hx8:=heap_setCell_same w7 w5.heap.size 0 _ 26 (.pointer q6) H87.out
       have hb8:=HB7.out.setCell (p:=⟨w5.heap.size,0,none⟩) HB5.out.size (.pointer q6)
       have hi8:=HI7.out.setCell (o:=0) H87.out (by decide) (.pointer q6)
       obtain⟨w8,hw8⟩:∃ w8,w8=w7.setCell ⟨w5.heap.size,0,none⟩ (.pointer q6):=⟨_,rfl⟩
       obtain⟨b8,hb8'⟩:∃ b8,b8=w5.heap.size:=⟨_,rfl⟩
       rw[← hw8] at hx8 hb8 hi8 ⊢
       rw[← hb8'] at hx8 ⊢
       clear hw8 hb8')
    | (change Exit.then _ _ _ _ (w7.setCell ⟨w4.heap.size,0,none⟩ (.pointer q6))
       have hx8:=heap_setCell_same w7 w4.heap.size 0 _ 26 (.pointer q6) H87.out
       have hb8:=HB7.out.setCell (p:=⟨w4.heap.size,0,none⟩) (jR _) (.pointer q6)
       have hi8:=HI7.out.setCell (o:=0) H87.out (by decide) (.pointer q6)
       obtain⟨w8,hw8⟩:∃ w8,w8=w7.setCell ⟨w4.heap.size,0,none⟩ (.pointer q6):=⟨_,rfl⟩
       obtain⟨b8,hb8'⟩:∃ b8,b8=w4.heap.size:=⟨_,rfl⟩
       rw[← hw8] at hx8 hb8 hi8 ⊢
       rw[← hb8'] at hx8 ⊢
       clear hw8 hb8')
  all_goals
   have HX8:=jH hx8
   have HB8:=jH hb8
   have HI8:=jH hi8
   have HB8W:=jH (Below.trans' HB4W.out HB8.out)
   have HX3w:=jH (Below.here HB8.out (Below.here HB40.out X3.out))
   have HK8:Hid (∀ w',Below w8.heap.size w8 w'→(w'.cell? ⟨W.heap.size+1,0,none⟩=some (.pointer qb)∧w'.cell? ⟨w3.heap.size,0,none⟩=some (.pointer ql)∧w'.cell? ⟨W.heap.size+1+1,0,none⟩=some (.pointer qc))∧w'.cell? ⟨b8,0,none⟩=some (.pointer q6)):=fun w' hb =>
    ⟨(HK.out w' (Below.trans' HB8.out hb)).2.2.1 |> fun h=>⟨h,(HK.out w' (Below.trans' HB8.out hb)).2.1,(HK.out w' (Below.trans' HB8.out hb)).2.2.2⟩,by rw[jB (Below.here hb HX8.out)];rfl⟩
   have hAdd:=yE (W:=w8.drew) ((HB.out.below HB8W.out).below ((Below.refl _ _).drew)) ((HIl4.out.below HB8.out).below ((Below.refl _ _).drew))
   have HKx:Hid (∀ w10 w':World,Below w8.heap.size w8 w10→(∀ g,g≠W.heap.size+1+1+1→w'.heap[g]? = w10.heap[g]?)→(w'.cell? ⟨W.heap.size+1,0,none⟩=some (.pointer qb)∧w'.cell? ⟨w3.heap.size,0,none⟩=some (.pointer ql)∧w'.cell? ⟨W.heap.size+1+1,0,none⟩=some (.pointer qc))∧w'.cell? ⟨b8,0,none⟩=some (.pointer q6)):=fun w10 w' hb hg=>by
    have y1:=Below.here hb (Below.here HB8.out (Below.here HB40.out X1.out))
    have y2:=Below.here hb (Below.here HB8.out (Below.here HB40.out X2.out))
    have y7:=Below.here hb (Below.here HB8.out X7.out)
    have y8:=Below.here hb HX8.out
    have y3:=Below.here hb HX3w.out
    refine⟨⟨?_,?_,?_⟩,?_⟩
    ·rw[jB ((hg _ (jI y1 y3 (by decide))).trans y1)];rfl
    ·rw[jB ((hg _ (jI y7 y3 (by decide))).trans y7)];rfl
    ·rw[jB ((hg _ (jI y2 y3 (by decide))).trans y2)];rfl
    ·rw[jB ((hg _ (jI y8 y3 (by decide))).trans y8)];rfl
   clear hx8 hb8 hi8
   go_wp2_with fail
   go_region_held2 (fun w'=>(w'.cell? ⟨W.heap.size+1,0,none⟩=some (.pointer qb)∧w'.cell? ⟨w3.heap.size,0,none⟩=some (.pointer ql)∧w'.cell? ⟨W.heap.size+1+1,0,none⟩=some (.pointer qc))∧w'.cell? ⟨b8,0,none⟩=some (.pointer q6))
    (first | exact HK8.out w8.drew ((Below.refl _ _).drew) | exact HK8.out _ HB9.out | exact HK8.out _ HB10.out | exact HKx.out w10 _ HB10.out (fun g hg=>ji w10 hg _ _ _))
    (first
      | (go_at_call 101
         refine hAdd.mono ?_
         rintro e w9 ⟨q9,er,rfl,hb9,hr9⟩
         have HB9:=jH (Below.trans' (W:=w8) ((Below.refl _ _).drew) hb9.out)
         have HI9:=hr9
         have HMu9:=qV (W:=w9) q9 er
         clear hb9 hr9)
      | (go_at_call 89
         refine HMu9.mono ?_
         rintro e w10 ⟨⟨he9,rfl⟩ | ⟨he9,rfl⟩,hb10⟩
         rotate_left
         ·have hz:=HI9.out.er.2 he9
          rw[hz.2]
          refine And.intro rfl ?_
          exact Or.inr ⟨fun h=>h.elim (fun h=>hu h) (fun h=>hz.1 h.2),rfl,Below.trans' HB8W.out (Below.trans' HB9.out hb10.out)⟩
         have HB10:=jH (Below.trans' HB9.out hb10.out)
         have HI10:=jH ((HI9.out.er.1 he9).2.below hb10.out)
         have HA10:=jH (HI9.out.er.1 he9).1
         clear he9
         have Y3:=jH (Below.here HB10.out HX3w.out)
         have c30:w10.cell? ⟨W.heap.size+1+1+1,0,none⟩=some (.pointer none):=by rw[jB Y3.out];rfl
         have c31:w10.cell? ⟨W.heap.size+1+1+1,1,none⟩=some (.pointer none):=by rw[jB Y3.out];rfl
         have c32:w10.cell? ⟨W.heap.size+1+1+1,2,none⟩=some (.pointer none):=by rw[jB Y3.out];rfl
         have f30:=jF Y3.out 0
         have f31:=jF Y3.out 1
         have f32:=jF Y3.out 2
         clear HMu9 hb10))
   go_wp2_with fail
   refine bodyPost_ret (v:=.agg #[.pointer q6,.pointer q9,.pointer qc]) (by simp[results,Tryz.results88,go_sem,c30,c31,c32]) rfl ?_
   refine .inl ⟨.inr ⟨HA7.out,HA10.out⟩,q6,q9,qc,rfl,?_,Below.set3 (Below.trans' HB8W.out HB10.out) (by omega)⟩
   have hpe:plainE u v m=⟨shx u (-(lowE u:Int)),v+lowE u,m⟩:=by unfold plainE; rw[if_neg hu]
   rw[hpe]
   exact IsE.store3 ⟨q6,q9,qc,rfl,HI8.out.below HB10.out,HI10.out,(HC.out.below HB8W.out).below HB10.out⟩ Y3.out
end
section
def rr (x y:E3): Int:=if x.v<y.v+x.m then x.v else y.v+x.m
def timesE (x y:E3): E3 :=
 if x.u=0 then plainE y.u (y.v+x.m) (x.m+y.m)
 else if y.u=0 then plainE x.u x.v (x.m+y.m)
 else plainE (shx x.u (x.v - rr x y)+shx y.u (y.v+x.m - rr x y)) (rr x y) (x.m+y.m)
structure TimesOK (x y:E3): Prop where
 m:allowed (x.m+y.m)
 q:allowed (y.v+x.m)
 left:x.u=0→plainOK y.u (y.v+x.m)
 right:x.u≠0→y.u=0→plainOK x.u x.v
 mine:x.u≠0→y.u≠0→allowed (x.v - rr x y)∧allowed (y.v+x.m - rr x y)∧allowed (shx x.u (x.v - rr x y))∧allowed (shx y.u (y.v+x.m - rr x y))∧allowed (shx x.u (x.v - rr x y)+shx y.u (y.v+x.m - rr x y)) ∧
  plainOK (shx x.u (x.v - rr x y)+shx y.u (y.v+x.m - rr x y)) (rr x y)
theorem zM {x k:Int}(h:0≤k): shOK x k:=fun e _=>by omega
theorem rr_le (x y:E3): 0≤x.v - rr x y∧0≤y.v+x.m - rr x y:=by unfold rr; split <;>omega
def Has (w:World)(l:List (Nat×Array Value×TypeId)): Prop:=∀ p∈l,w.heap[p.1]? = some (.cells p.2.1 p.2.2 (0,0))
variable {w:World}
theorem Has.below {w':World}{l:List (Nat×Array Value×TypeId)}(h:Has w l)(hb:Below w.heap.size w w'): Has w' l:=fun p hp=>Below.here hb (h p hp)
theorem Has.add {l:List (Nat×Array Value×TypeId)}(h:Has w l)(c:Array Value)(T:TypeId): Has (w.alloc (.cells c T)) ((w.heap.size,c,T)::l):=fun p hp=>by
 rcases List.mem_cons.1 hp with rfl | hp
 ·exact jD w _
 ·exact Below.here ((Below.refl _ _).alloc (jR _) _) (h p hp)
theorem Has.cell {w:World}{l:List (Nat×Array Value×TypeId)}(h:Has w l){b:Nat}{c:Array Value}{T:TypeId}(hm:(b,c,T)∈l)(o:Nat): w.cell? ⟨b,o,none⟩=c[o]?:=jB (h _ hm) o
theorem Has.set {l l':List (Nat×Array Value×TypeId)}{b:Nat}{v u:Value}{T:TypeId}(h:Has w ((b,#[v],T)::l))(hd:∀ p∈l,p.1≠b)(hl:l'=(b,#[u],T)::l): Has (w.setCell ⟨b,0,none⟩ u) l':=fun p hp=>by
 subst hl
 rcases List.mem_cons.1 hp with rfl | hp
 ·exact heap_setCell_same w b 0 _ T u (h (b,#[v],T) (by simp))
 ·rw[jS _ _ _ _ (by show p.1≠b; exact hd p hp)]
  exact h p (List.mem_cons_of_mem _ hp)
theorem zp {W:World}{V1 V2:Value}{x y:E3}(h1:IsE W V1 x)(h2:IsE W V2 y): Calls Tryz.prog 56 #[V1,V2] W (PX (TimesOK x y) (timesE x y) W):=by
 obtain⟨xu,xv,xm,rfl,hxu,hxv,hxm⟩:=h1
 obtain⟨yu,yv,ym,rfl,hyu,hyv,hym⟩:=h2
 have HXu:=jH hxu
 have HXv:=jH hxv
 have HXm:=jH hxm
 have HYu:=jH hyu
 have HYv:=jH hyv
 have HYm:=jH hym
 clear hxu hxv hxm hyu hyv hym
 obtain⟨W0,hW0⟩:∃ W0,W0=((W.alloc (.cells #[.pointer xu,.pointer xv,.pointer xm] 28)).alloc (.cells #[.pointer yu,.pointer yv,.pointer ym] 28)).alloc (.cells #[.pointer none,.pointer none,.pointer none] 28):=⟨_,rfl⟩
 have HB0:Hid (Below W.heap.size W W0):=by show Below _ _ _; rw[hW0];exact (((Below.refl _ _).alloc (jR _) _).alloc (by simp) _).alloc (by simp; omega) _
 have HH0:Hid (Has W0 [(W.heap.size+1+1,#[.pointer none,.pointer none,.pointer none],28),(W.heap.size+1,#[.pointer yu,.pointer yv,.pointer ym],28),(W.heap.size,#[.pointer xu,.pointer xv,.pointer xm],28)]):=by
  show Has _ _
  have h:=((Has.add (l:=[]) (fun p hp=>by simp at hp) #[.pointer xu,.pointer xv,.pointer xm] 28:Has (W.alloc _) _).add #[.pointer yu,.pointer yv,.pointer ym] 28).add #[.pointer none,.pointer none,.pointer none] 28
  rw[jY,jY] at h
  rw[hW0];exact h
 have hz0:W.heap.size+3=W0.heap.size:=by rw[hW0];simp
 have HW0:=jH hW0
 have hAdd1:=yE (W:=W0) (HXm.out.below HB0.out) (HYm.out.below HB0.out)
 clear hW0
 go_enter Tryz.func56,Tryz.ntmps56
 go_wp2_with fail
 rw[show ((W.alloc (.cells #[.pointer xu,.pointer xv,.pointer xm] 28)).alloc (.cells #[.pointer yu,.pointer yv,.pointer ym] 28)).alloc (.cells #[.pointer none,.pointer none,.pointer none] 28)=W0 from HW0.out.symm]
 refine hAdd1.mono ?_
 rintro e wa ⟨qm,er,rfl,hba,hra⟩
 have hmu:=qV (W:=wa) qm er
 clear hAdd1
 go_wp2_with fail
 refine hmu.mono ?_
 rintro e wbm ⟨⟨he,rfl⟩ | ⟨he,rfl⟩,hbb⟩
 rotate_left
 ·have hz:=hra.out.er.2 he
  rw[hz.2]
  refine And.intro rfl ?_
  exact Or.inr ⟨fun h=>hz.1 (h.m),rfl,Below.trans' HB0.out (Below.trans' hba.out hbb.out)⟩
 clear hmu
 have HAm:=jH (hra.out.er.1 he).1
 have hia:=(hra.out.er.1 he).2
 clear he
 have hbx:=Below.trans' hba.out hbb.out
 have HIm:=jH ((hia.below hbb.out).below ((Below.refl _ _).alloc (jR _) (.cells #[.pointer qm] 26)))
 have HHm:=jH ((HH0.out.below hbx).add #[.pointer qm] 26)
 have HWm:=jH (Below.trans' HB0.out (hbx.alloc hbx.size (.cells #[.pointer qm] 26)))
 have HDm:=jH (hbx.alloc hbx.size (.cells #[.pointer qm] 26))
 clear hba hra hia hbb hbx
 have c1:=HHm.out.cell (b:=W.heap.size+1) (c:=#[.pointer yu,.pointer yv,.pointer ym]) (T:=28) (by simp) 1
 have c2:=HHm.out.cell (b:=W.heap.size) (c:=#[.pointer xu,.pointer xv,.pointer xm]) (T:=28) (by simp) 2
 have hAdd2:=yE (W:=wbm.alloc (.cells #[.pointer qm] 26)) (HYv.out.below HWm.out) (HXm.out.below HWm.out)
 go_wp2_with fail
 clear c1 c2
 refine hAdd2.mono ?_
 rintro e wa ⟨qq,er,rfl,hba,hra⟩
 have hmu:=qV (W:=wa) qq er
 clear hAdd2
 go_wp2_with fail
 refine hmu.mono ?_
 rintro e wbq ⟨⟨he,rfl⟩ | ⟨he,rfl⟩,hbb⟩
 rotate_left
 ·have hz:=hra.out.er.2 he
  rw[hz.2]
  refine And.intro rfl ?_
  exact Or.inr ⟨fun h=>hz.1 (h.q),rfl,Below.trans' HWm.out (Below.trans' hba.out hbb.out)⟩
 clear hmu
 have HAq:=jH (hra.out.er.1 he).1
 have hia:=(hra.out.er.1 he).2
 clear he
 have hbx:=Below.trans' hba.out hbb.out
 have HIq:=jH ((hia.below hbb.out).below ((Below.refl _ _).alloc (jR _) (.cells #[.pointer qq] 26)))
 have HHq:=jH ((HHm.out.below hbx).add #[.pointer qq] 26)
 have HWq:=jH (Below.trans' HWm.out (hbx.alloc hbx.size (.cells #[.pointer qq] 26)))
 have HDq:=jH (hbx.alloc hbx.size (.cells #[.pointer qq] 26))
 clear hba hra hia hbb hbx
 have c1:=HHq.out.cell (b:=W.heap.size) (c:=#[.pointer xu,.pointer xv,.pointer xm]) (T:=28) (by simp) 0
 have hSg:=qQ (W:=wbq.alloc (.cells #[.pointer qq] 26)) (HXu.out.below HWq.out)
 by_cases hu:x.u=0
 ·have h0:isg x.u=0:=qM.2 hu
  rw[h0] at hSg
  have HTE:Hid (timesE x y=plainE y.u (y.v+x.m) (x.m+y.m)):=by show _=_; unfold timesE; rw[if_pos hu]
  have HU0:Hid (x.u=0):=hu
  clear h0 hu
  go_wp2_with fail
  refine hSg.mono ?_
  rintro e ws ⟨rfl,hbs⟩
  clear hSg c1
  have HHs:=jH (HHq.out.below hbs.out)
  have HWs:=jH (Below.trans' HWq.out hbs.out)
  have c1:=HHs.out.cell (b:=W.heap.size+1) (c:=#[.pointer yu,.pointer yv,.pointer ym]) (T:=28) (by simp) 0
  have c2:=HHs.out.cell (b:=wbq.heap.size) (c:=#[.pointer qq]) (T:=26) (by simp) 0
  have c3:=HHs.out.cell (b:=wbm.heap.size) (c:=#[.pointer qm]) (T:=26) (by simp) 0
  have hPl:=yl (W:=ws) (HYu.out.below HWs.out) (HIq.out.below hbs.out) ((HIm.out.below HDq.out).below hbs.out)
  go_wp2_with fail
  clear c1 c2 c3
  refine hPl.mono ?_
  rintro e w8 (⟨hok8,pu,pv,pm,rfl,hie,hb8⟩ | ⟨hno,rfl,hb8⟩)
  rotate_left
  ·refine And.intro rfl ?_
   exact Or.inr ⟨fun h=>hno (h.left HU0.out),rfl,Below.trans' HWs.out hb8.out⟩
  have HA8:=jH hok8
  clear hok8
  have HH8:=jH (HHs.out.below hb8.out)
  have d0:=HH8.out.cell (b:=W.heap.size+1+1) (c:=#[.pointer none,.pointer none,.pointer none]) (T:=28) (by simp) 0
  have d1:=HH8.out.cell (b:=W.heap.size+1+1) (c:=#[.pointer none,.pointer none,.pointer none]) (T:=28) (by simp) 1
  have d2:=HH8.out.cell (b:=W.heap.size+1+1) (c:=#[.pointer none,.pointer none,.pointer none]) (T:=28) (by simp) 2
  have Y3:=jH (HH8.out (W.heap.size+1+1,#[.pointer none,.pointer none,.pointer none],28) (by simp))
  have f0:=jF Y3.out 0
  have f1:=jF Y3.out 1
  have f2:=jF Y3.out 2
  clear hPl
  go_wp2_with fail
  refine bodyPost_ret (v:=.agg #[.pointer pu,.pointer pv,.pointer pm]) (by simp[results,Tryz.results56,go_sem,d0,d1,d2]) rfl ?_
  refine .inl ⟨⟨HAm.out,HAq.out,fun _=>HA8.out,fun h=>absurd HU0.out h,fun h=>absurd HU0.out h⟩,pu,pv,pm,rfl,?_,Below.set3 (Below.trans' HWs.out hb8.out) (by show W.heap.size≤W.heap.size+1+1; omega)⟩
  rw[HTE.out]
  exact IsE.store3 hie.out Y3.out
 ·have h0:(isg x.u==0)=false:=by simpa using mt qM.1 hu
  have HU:Hid (x.u≠0):=hu
  clear hu
  go_wp2_with fail
  refine hSg.mono ?_
  rintro e ws ⟨rfl,hbs⟩
  clear hSg c1
  have HHs:=jH (HHq.out.below hbs.out)
  have HWs:=jH (Below.trans' HWq.out hbs.out)
  have c1:=HHs.out.cell (b:=W.heap.size+1) (c:=#[.pointer yu,.pointer yv,.pointer ym]) (T:=28) (by simp) 0
  have hSg2:=qQ (W:=ws) (HYu.out.below HWs.out)
  by_cases hy:y.u=0
  ·have h02:isg y.u=0:=qM.2 hy
   rw[h02] at hSg2
   have HTE:Hid (timesE x y=plainE x.u x.v (x.m+y.m)):=by show _=_; unfold timesE; rw[if_neg HU.out,if_pos hy]
   have HY0:Hid (y.u=0):=hy
   clear h02 hy
   go_wp2_with fail
   refine hSg2.mono ?_
   rintro e wt ⟨rfl,hbt⟩
   clear hSg2 c1
   have HHt:=jH (HHs.out.below hbt.out)
   have HWt:=jH (Below.trans' HWs.out hbt.out)
   have c1:=HHt.out.cell (b:=W.heap.size) (c:=#[.pointer xu,.pointer xv,.pointer xm]) (T:=28) (by simp) 0
   have c2:=HHt.out.cell (b:=W.heap.size) (c:=#[.pointer xu,.pointer xv,.pointer xm]) (T:=28) (by simp) 1
   have c3:=HHt.out.cell (b:=wbm.heap.size) (c:=#[.pointer qm]) (T:=26) (by simp) 0
   have hPl:=yl (W:=wt) (HXu.out.below HWt.out) (HXv.out.below HWt.out) (((HIm.out.below HDq.out).below hbs.out).below hbt.out)
   go_wp2_with fail
   clear c1 c2 c3
   refine hPl.mono ?_
   rintro e w8 (⟨hok8,pu,pv,pm,rfl,hie,hb8⟩ | ⟨hno,rfl,hb8⟩)
   rotate_left
   ·refine And.intro rfl ?_
    exact Or.inr ⟨fun h=>hno (h.right HU.out HY0.out),rfl,Below.trans' HWt.out hb8.out⟩
   have HA8:=jH hok8
   clear hok8
   have HH8:=jH (HHt.out.below hb8.out)
   have d0:=HH8.out.cell (b:=W.heap.size+1+1) (c:=#[.pointer none,.pointer none,.pointer none]) (T:=28) (by simp) 0
   have d1:=HH8.out.cell (b:=W.heap.size+1+1) (c:=#[.pointer none,.pointer none,.pointer none]) (T:=28) (by simp) 1
   have d2:=HH8.out.cell (b:=W.heap.size+1+1) (c:=#[.pointer none,.pointer none,.pointer none]) (T:=28) (by simp) 2
   have Y3:=jH (HH8.out (W.heap.size+1+1,#[.pointer none,.pointer none,.pointer none],28) (by simp))
   have f0:=jF Y3.out 0
   have f1:=jF Y3.out 1
   have f2:=jF Y3.out 2
   clear hPl
   go_wp2_with fail
   refine bodyPost_ret (v:=.agg #[.pointer pu,.pointer pv,.pointer pm]) (by simp[results,Tryz.results56,go_sem,d0,d1,d2]) rfl ?_
   refine .inl ⟨⟨HAm.out,HAq.out,fun h=>absurd h HU.out,fun _ _=>HA8.out,fun _ h=>absurd HY0.out h⟩,pu,pv,pm,rfl,?_,Below.set3 (Below.trans' HWt.out hb8.out) (by show W.heap.size≤W.heap.size+1+1; omega)⟩
   rw[HTE.out]
   exact IsE.store3 hie.out Y3.out
  ·have h02:(isg y.u==0)=false:=by simpa using mt qM.1 hy
   have HY:Hid (y.u≠0):=hy
   clear hy
   go_wp2_with fail
   refine hSg2.mono ?_
   rintro e wt ⟨rfl,hbt⟩
   clear hSg2 c1
   have HHt:=jH (HHs.out.below hbt.out)
   have HWt:=jH (Below.trans' HWs.out hbt.out)
   have HQt:=jH ((HIq.out.below hbs.out).below hbt.out)
   have HMt:=jH (((HIm.out.below HDq.out).below hbs.out).below hbt.out)
   have c1:=HHt.out.cell (b:=wbq.heap.size) (c:=#[.pointer qq]) (T:=26) (by simp) 0
   have HHr:=jH (HHt.out.add #[.pointer qq] 26)
   have HDr:=jH ((Below.refl wt.heap.size wt).alloc (jR _) (.cells #[.pointer qq] 26))
   have c2:=HHr.out.cell (b:=W.heap.size) (c:=#[.pointer xu,.pointer xv,.pointer xm]) (T:=28) (by simp) 1
   have c3:=HHr.out.cell (b:=wbq.heap.size) (c:=#[.pointer qq]) (T:=26) (by simp) 0
   have HWr:=jH (Below.trans' HWt.out HDr.out)
   have hCm:=yF (W:=wt.alloc (.cells #[.pointer qq] 26)) (HXv.out.below HWr.out) (HQt.out.below HDr.out)
   clear hbs hbt
   have HTE:Hid (timesE x y=plainE (shx x.u (x.v - rr x y)+shx y.u (y.v+x.m - rr x y)) (rr x y) (x.m+y.m)):=by show _=_; unfold timesE; rw[if_neg HU.out,if_neg HY.out]
   by_cases hlt:x.v<y.v+x.m
   ·have h03:isg (x.v - (y.v+x.m))<0:=isg_lt (by omega)
    have HR:Hid (rr x y=x.v):=by show _=_; unfold rr; rw[if_pos hlt]
    clear hlt
    go_wp2_with fail
    refine hCm.mono ?_
    rintro e wc ⟨rfl,hbc⟩
    clear hCm c1 c2 c3
    have HHc:=jH (HHr.out.below hbc.out)
    have c1:=HHc.out.cell (b:=W.heap.size) (c:=#[.pointer xu,.pointer xv,.pointer xm]) (T:=28) (by simp) 1
    have c2:=HHc.out.cell (b:=wt.heap.size) (c:=#[.pointer qq]) (T:=26) (by simp) 0
    have y7:wc.heap[wt.heap.size]? = some (.cells #[.pointer qq] 26 (0,0)):=HHc.out (wt.heap.size,#[.pointer qq],26) (by simp)
    have f7:=jF y7 0
    have s1:=HWm.out.size
    have s2:=HWq.out.size
    have s3:=HWs.out.size
    have s4:=HWt.out.size
    have z1:=(jA (HHt.out (wbq.heap.size,#[.pointer qq],26) (by simp))).1
    have z2:=(jA (HHt.out (wbm.heap.size,#[.pointer qm],26) (by simp))).1
    have z3:=(jA (HHt.out (W.heap.size+1+1,#[.pointer none,.pointer none,.pointer none],28) (by simp))).1
    have z4:=(jA (HHt.out (W.heap.size+1,#[.pointer yu,.pointer yv,.pointer ym],28) (by simp))).1
    have z5:=(jA (HHt.out (W.heap.size,#[.pointer xu,.pointer xv,.pointer xm],28) (by simp))).1
    have HHv:=jH (HHc.out.set (u:=.pointer xv) (by intro p hp; simp at hp; rcases hp with rfl | rfl | rfl | rfl | rfl <;>dsimp only <;>omega) rfl)
    have HWc:=jH (Below.trans' HWr.out hbc.out)
    have HWv:=jH (HWc.out.setCell (p:=⟨wt.heap.size,0,none⟩) (by show W.heap.size≤wt.heap.size; omega) (.pointer xv))
    have HIr:=jH ((HXv.out.below HWc.out).setCell (o:=0) y7 (by decide) (.pointer xv))
    have HIq7:=jH (((HQt.out.below HDr.out).below hbc.out).setCell (o:=0) y7 (by decide) (.pointer xv))
    have HIm7:=jH (((HMt.out.below HDr.out).below hbc.out).setCell (o:=0) y7 (by decide) (.pointer xv))
    have HIr':Hid (IsN (wc.setCell ⟨wt.heap.size,0,none⟩ (.pointer xv)) (.agg #[.pointer xv]) (rr x y)):=by show IsN _ _ _; rw[HR.out];exact HIr.out
    clear s1 s2 s3 s4 z1 z2 z3 z4 z5 y7 hbc
    go_wp2_with fail
    clear c1 c2 f7
    obtain⟨w7,hw7⟩:∃ w7,w7=wc.setCell ⟨wt.heap.size,0,none⟩ (.pointer xv):=⟨_,rfl⟩
    rw[← hw7] at HHv HWv HIr' HIq7 HIm7 ⊢
    clear hw7
    have hSub1:=Sub_calls (W:=w7) (HXv.out.below HWv.out) HIr'.out
    refine hSub1.mono ?_
    rintro e wa ⟨qi,er,rfl,hba,hra⟩
    have hmu:=qV (W:=wa) qi er
    clear hSub1
    go_wp2_with fail
    refine hmu.mono ?_
    rintro e wbi ⟨⟨he,rfl⟩ | ⟨he,rfl⟩,hbb⟩
    rotate_left
    ·have hz:=hra.out.er.2 he
     rw[hz.2]
     refine And.intro rfl ?_
     exact Or.inr ⟨fun h=>hz.1 ((h.mine HU.out HY.out).1),rfl,Below.trans' HWv.out (Below.trans' hba.out hbb.out)⟩
    clear hmu
    have HAi:=jH (hra.out.er.1 he).1
    have hia:=(hra.out.er.1 he).2
    clear he
    have hbx:=Below.trans' hba.out hbb.out
    have HIi:=jH ((hia.below hbb.out).below ((Below.refl _ _).alloc (jR _) (.cells #[.pointer qi] 26)))
    have HHi:=jH ((HHv.out.below hbx).add #[.pointer qi] 26)
    have HWi:=jH (Below.trans' HWv.out (hbx.alloc hbx.size (.cells #[.pointer qi] 26)))
    have HDi:=jH (hbx.alloc hbx.size (.cells #[.pointer qi] 26))
    clear hba hra hia hbb hbx
    have c1:=HHi.out.cell (b:=wbq.heap.size) (c:=#[.pointer qq]) (T:=26) (by simp) 0
    have c2:=HHi.out.cell (b:=wt.heap.size) (c:=#[.pointer xv]) (T:=26) (by simp) 0
    have hSub2:=Sub_calls (W:=wbi.alloc (.cells #[.pointer qi] 26)) (HIq7.out.below HDi.out) (HIr'.out.below HDi.out)
    go_wp2_with fail
    clear c1 c2
    refine hSub2.mono ?_
    rintro e wa ⟨qj,er,rfl,hba,hra⟩
    have hmu:=qV (W:=wa) qj er
    clear hSub2
    go_wp2_with fail
    refine hmu.mono ?_
    rintro e wbj ⟨⟨he,rfl⟩ | ⟨he,rfl⟩,hbb⟩
    rotate_left
    ·have hz:=hra.out.er.2 he
     rw[hz.2]
     refine And.intro rfl ?_
     exact Or.inr ⟨fun h=>hz.1 ((h.mine HU.out HY.out).2.1),rfl,Below.trans' HWi.out (Below.trans' hba.out hbb.out)⟩
    clear hmu
    have HAj:=jH (hra.out.er.1 he).1
    have hia:=(hra.out.er.1 he).2
    clear he
    have hbx:=Below.trans' hba.out hbb.out
    have HIj:=jH ((hia.below hbb.out).below ((Below.refl _ _).alloc (jR _) (.cells #[.pointer qj] 26)))
    have HHj:=jH ((HHi.out.below hbx).add #[.pointer qj] 26)
    have HWj:=jH (Below.trans' HWi.out (hbx.alloc hbx.size (.cells #[.pointer qj] 26)))
    have HDj:=jH (hbx.alloc hbx.size (.cells #[.pointer qj] 26))
    clear hba hra hia hbb hbx
    have c1:=HHj.out.cell (b:=W.heap.size) (c:=#[.pointer xu,.pointer xv,.pointer xm]) (T:=28) (by simp) 0
    have c2:=HHj.out.cell (b:=wbi.heap.size) (c:=#[.pointer qi]) (T:=26) (by simp) 0
    have hSh1:=z6 (W:=wbj.alloc (.cells #[.pointer qj] 26)) (HXu.out.below HWj.out) (HIi.out.below HDj.out)
    go_wp2_with fail
    clear c1 c2
    refine hSh1.mono ?_
    rintro e wa ⟨qa,er,rfl,hba,hra0⟩
    have hra:Hid (NR wa (shx x.u (x.v - rr x y)) (.agg #[.pointer qa]) er):=by
     show NR _ _ _ _
     rcases hra0.out with h | h
     ·exact h.2
     ·exact absurd (zM ((rr_le x y).1)) h.1
    have hmu:=qV (W:=wa) qa er
    clear hSh1 hra0
    go_wp2_with fail
    refine hmu.mono ?_
    rintro e wba ⟨⟨he,rfl⟩ | ⟨he,rfl⟩,hbb⟩
    rotate_left
    ·have hz:=hra.out.er.2 he
     rw[hz.2]
     refine And.intro rfl ?_
     exact Or.inr ⟨fun h=>hz.1 ((h.mine HU.out HY.out).2.2.1),rfl,Below.trans' HWj.out (Below.trans' hba.out hbb.out)⟩
    clear hmu
    have HAa:=jH (hra.out.er.1 he).1
    have hia:=(hra.out.er.1 he).2
    clear he
    have hbx:=Below.trans' hba.out hbb.out
    have HIa:=jH ((hia.below hbb.out).below ((Below.refl _ _).alloc (jR _) (.cells #[.pointer qa] 26)))
    have HHa:=jH ((HHj.out.below hbx).add #[.pointer qa] 26)
    have HWa:=jH (Below.trans' HWj.out (hbx.alloc hbx.size (.cells #[.pointer qa] 26)))
    have HDa:=jH (hbx.alloc hbx.size (.cells #[.pointer qa] 26))
    clear hba hra hia hbb hbx
    have c1:=HHa.out.cell (b:=W.heap.size+1) (c:=#[.pointer yu,.pointer yv,.pointer ym]) (T:=28) (by simp) 0
    have c2:=HHa.out.cell (b:=wbj.heap.size) (c:=#[.pointer qj]) (T:=26) (by simp) 0
    have hSh2:=z6 (W:=wba.alloc (.cells #[.pointer qa] 26)) (HYu.out.below HWa.out) (HIj.out.below HDa.out)
    go_wp2_with fail
    clear c1 c2
    refine hSh2.mono ?_
    rintro e wa ⟨qb,er,rfl,hba,hra0⟩
    have hra:Hid (NR wa (shx y.u (y.v+x.m - rr x y)) (.agg #[.pointer qb]) er):=by
     show NR _ _ _ _
     rcases hra0.out with h | h
     ·exact h.2
     ·exact absurd (zM ((rr_le x y).2)) h.1
    have hmu:=qV (W:=wa) qb er
    clear hSh2 hra0
    go_wp2_with fail
    refine hmu.mono ?_
    rintro e wbb ⟨⟨he,rfl⟩ | ⟨he,rfl⟩,hbb⟩
    rotate_left
    ·have hz:=hra.out.er.2 he
     rw[hz.2]
     refine And.intro rfl ?_
     exact Or.inr ⟨fun h=>hz.1 ((h.mine HU.out HY.out).2.2.2.1),rfl,Below.trans' HWa.out (Below.trans' hba.out hbb.out)⟩
    clear hmu
    have HAb:=jH (hra.out.er.1 he).1
    have hia:=(hra.out.er.1 he).2
    clear he
    have hbx:=Below.trans' hba.out hbb.out
    have HIb:=jH ((hia.below hbb.out).below ((Below.refl _ _).alloc (jR _) (.cells #[.pointer qb] 26)))
    have HHb:=jH ((HHa.out.below hbx).add #[.pointer qb] 26)
    have HWb:=jH (Below.trans' HWa.out (hbx.alloc hbx.size (.cells #[.pointer qb] 26)))
    have HDb:=jH (hbx.alloc hbx.size (.cells #[.pointer qb] 26))
    clear hba hra hia hbb hbx
    obtain⟨wR,hwR⟩:∃ wR,wR=wbb.alloc (.cells #[.pointer qb] 26):=⟨_,rfl⟩
    have HIRa:=jH (HIa.out.below HDb.out)
    have HDr7:=jH (Below.trans' (Below.trans' (Below.trans' HDi.out HDj.out) HDa.out) HDb.out)
    have HIRr:=jH (HIr'.out.below HDr7.out)
    have HIRm:=jH (HIm7.out.below HDr7.out)
    go_wp2_with fail
    rw[← hwR] at HHb HWb HIb HIRa HIRr HIRm ⊢
    clear hwR
    have HKx:Hid (∀ w10 w':World,Below wR.heap.size wR w10→(∀ g,g≠W.heap.size+1+1→w'.heap[g]? = w10.heap[g]?)→(w'.cell? ⟨wba.heap.size,0,none⟩=some (.pointer qa)∧w'.cell? ⟨wbb.heap.size,0,none⟩=some (.pointer qb))∧w'.cell? ⟨wt.heap.size,0,none⟩=some (.pointer xv)∧w'.cell? ⟨wbm.heap.size,0,none⟩=some (.pointer qm)):=fun w10 w' hb hg=>by
     have hh:=HHb.out.below hb
     have y3:=hh (W.heap.size+1+1,#[.pointer none,.pointer none,.pointer none],28) (by simp)
     have y1:=hh (wba.heap.size,#[.pointer qa],26) (by simp)
     have y2:=hh (wbb.heap.size,#[.pointer qb],26) (by simp)
     have y7:=hh (wt.heap.size,#[.pointer xv],26) (by simp)
     have y8:=hh (wbm.heap.size,#[.pointer qm],26) (by simp)
     dsimp only at y1 y2 y3 y7 y8
     refine⟨⟨?_,?_⟩,?_,?_⟩
     ·rw[jB ((hg _ (jI y1 y3 (by decide))).trans y1)];rfl
     ·rw[jB ((hg _ (jI y2 y3 (by decide))).trans y2)];rfl
     ·rw[jB ((hg _ (jI y7 y3 (by decide))).trans y7)];rfl
     ·rw[jB ((hg _ (jI y8 y3 (by decide))).trans y8)];rfl
    have hAdd:=yE (W:=wR.drew) (HIRa.out.below ((Below.refl _ _).drew)) (HIb.out.below ((Below.refl _ _).drew))
    go_region_held2 (fun w'=>(w'.cell? ⟨wba.heap.size,0,none⟩=some (.pointer qa)∧w'.cell? ⟨wbb.heap.size,0,none⟩=some (.pointer qb))∧w'.cell? ⟨wt.heap.size,0,none⟩=some (.pointer xv)∧w'.cell? ⟨wbm.heap.size,0,none⟩=some (.pointer qm))
     (first | exact HKx.out wR wR.drew (Below.refl _ _) (fun _ _=>rfl) | exact HKx.out w9 w9 HB9.out (fun _ _=>rfl) | exact HKx.out w10 w10 HB10.out (fun _ _=>rfl) | exact HKx.out w12 w12 HB12.out (fun _ _=>rfl) | exact HKx.out w12 _ HB12.out (fun g hg=>ji w12 hg _ _ _))
     (first
       | (go_at_call 101
          refine hAdd.mono ?_
          rintro e w9 ⟨q9,er,rfl,hb9,hr9⟩
          have HB9:=jH (Below.trans' (W:=wR) ((Below.refl _ _).drew) hb9.out)
          have HI9:=hr9
          have HMu9:=qV (W:=w9) q9 er
          clear hb9 hr9)
       | (go_at_call 89
          refine HMu9.mono ?_
          rintro e w10 ⟨⟨he9,rfl⟩ | ⟨he9,rfl⟩,hb10⟩
          rotate_left
          ·have hz:=HI9.out.er.2 he9
           rw[hz.2]
           refine And.intro rfl ?_
           exact Or.inr ⟨fun h=>hz.1 (h.mine HU.out HY.out).2.2.2.2.1,rfl,Below.trans' HWb.out (Below.trans' HB9.out hb10.out)⟩
          have HA9:=jH (HI9.out.er.1 he9).1
          have HB10:=jH (Below.trans' HB9.out hb10.out)
          have HPl:=yl (W:=w10) ((HI9.out.er.1 he9).2.below hb10.out) (HIRr.out.below HB10.out) (HIRm.out.below HB10.out)
          clear HMu9 hb10 he9)
       | (go_at_call 88
          refine HPl.mono ?_
          rintro e w12 (⟨hok12,pu,pv,pm,rfl,hie,hb12⟩ | ⟨hno,rfl,hb12⟩)
          rotate_left
          ·refine And.intro rfl ?_
           exact Or.inr ⟨fun h=>hno (h.mine HU.out HY.out).2.2.2.2.2,rfl,Below.trans' HWb.out (Below.trans' HB10.out hb12.out)⟩
          have HA12:=jH hok12
          clear hok12
          have HB12:=jH (Below.trans' HB10.out hb12.out)
          have HH12:=jH (HHb.out.below HB12.out)
          have d0:=HH12.out.cell (b:=W.heap.size+1+1) (c:=#[.pointer none,.pointer none,.pointer none]) (T:=28) (by simp) 0
          have d1:=HH12.out.cell (b:=W.heap.size+1+1) (c:=#[.pointer none,.pointer none,.pointer none]) (T:=28) (by simp) 1
          have d2:=HH12.out.cell (b:=W.heap.size+1+1) (c:=#[.pointer none,.pointer none,.pointer none]) (T:=28) (by simp) 2
          have Y3:=jH (HH12.out (W.heap.size+1+1,#[.pointer none,.pointer none,.pointer none],28) (by simp))
          have f0:=jF Y3.out 0
          have f1:=jF Y3.out 1
          have f2:=jF Y3.out 2
          clear HPl hb12))
    go_wp2_with fail
    refine bodyPost_ret (v:=.agg #[.pointer pu,.pointer pv,.pointer pm]) (by simp[results,Tryz.results56,go_sem,d0,d1,d2]) rfl ?_
    refine .inl ⟨⟨HAm.out,HAq.out,fun h=>absurd h HU.out,fun _ h=>absurd h HY.out,fun _ _=>⟨HAi.out,HAj.out,HAa.out,HAb.out,HA9.out,HA12.out⟩⟩,pu,pv,pm,rfl,?_,Below.set3 (Below.trans' HWb.out HB12.out) (by show W.heap.size≤W.heap.size+1+1; omega)⟩
    rw[HTE.out]
    exact IsE.store3 hie.out Y3.out
   ·have h03:¬ (isg (x.v - (y.v+x.m))<0):=isg_nn (by omega)
    have HR:Hid (rr x y=y.v+x.m):=by show _=_; unfold rr; rw[if_neg hlt]
    clear hlt
    go_wp2_with fail
    refine hCm.mono ?_
    rintro e wc ⟨rfl,hbc⟩
    clear hCm c1 c2 c3
    have HHv:=jH (HHr.out.below hbc.out)
    have HWv:=jH (Below.trans' HWr.out hbc.out)
    have HIq7:=jH ((HQt.out.below HDr.out).below hbc.out)
    have HIm7:=jH ((HMt.out.below HDr.out).below hbc.out)
    have HIr':Hid (IsN wc (.agg #[.pointer qq]) (rr x y)):=by show IsN _ _ _; rw[HR.out];exact HIq7.out
    have c1:=HHv.out.cell (b:=W.heap.size) (c:=#[.pointer xu,.pointer xv,.pointer xm]) (T:=28) (by simp) 1
    have c2:=HHv.out.cell (b:=wt.heap.size) (c:=#[.pointer qq]) (T:=26) (by simp) 0
    clear hbc
    go_wp2_with fail
    clear c1 c2
    obtain⟨w7,hw7⟩:∃ w7,w7=wc:=⟨_,rfl⟩
    rw[← hw7] at HHv HWv HIr' HIq7 HIm7 ⊢
    clear hw7
    have hSub1:=Sub_calls (W:=w7) (HXv.out.below HWv.out) HIr'.out
    refine hSub1.mono ?_
    rintro e wa ⟨qi,er,rfl,hba,hra⟩
    have hmu:=qV (W:=wa) qi er
    clear hSub1
    go_wp2_with fail
    refine hmu.mono ?_
    rintro e wbi ⟨⟨he,rfl⟩ | ⟨he,rfl⟩,hbb⟩
    rotate_left
    ·have hz:=hra.out.er.2 he
     rw[hz.2]
     refine And.intro rfl ?_
     exact Or.inr ⟨fun h=>hz.1 ((h.mine HU.out HY.out).1),rfl,Below.trans' HWv.out (Below.trans' hba.out hbb.out)⟩
    clear hmu
    have HAi:=jH (hra.out.er.1 he).1
    have hia:=(hra.out.er.1 he).2
    clear he
    have hbx:=Below.trans' hba.out hbb.out
    have HIi:=jH ((hia.below hbb.out).below ((Below.refl _ _).alloc (jR _) (.cells #[.pointer qi] 26)))
    have HHi:=jH ((HHv.out.below hbx).add #[.pointer qi] 26)
    have HWi:=jH (Below.trans' HWv.out (hbx.alloc hbx.size (.cells #[.pointer qi] 26)))
    have HDi:=jH (hbx.alloc hbx.size (.cells #[.pointer qi] 26))
    clear hba hra hia hbb hbx
    have c1:=HHi.out.cell (b:=wbq.heap.size) (c:=#[.pointer qq]) (T:=26) (by simp) 0
    have c2:=HHi.out.cell (b:=wt.heap.size) (c:=#[.pointer qq]) (T:=26) (by simp) 0
    have hSub2:=Sub_calls (W:=wbi.alloc (.cells #[.pointer qi] 26)) (HIq7.out.below HDi.out) (HIr'.out.below HDi.out)
    go_wp2_with fail
    clear c1 c2
    refine hSub2.mono ?_
    rintro e wa ⟨qj,er,rfl,hba,hra⟩
    have hmu:=qV (W:=wa) qj er
    clear hSub2
    go_wp2_with fail
    refine hmu.mono ?_
    rintro e wbj ⟨⟨he,rfl⟩ | ⟨he,rfl⟩,hbb⟩
    rotate_left
    ·have hz:=hra.out.er.2 he
     rw[hz.2]
     refine And.intro rfl ?_
     exact Or.inr ⟨fun h=>hz.1 ((h.mine HU.out HY.out).2.1),rfl,Below.trans' HWi.out (Below.trans' hba.out hbb.out)⟩
    clear hmu
    have HAj:=jH (hra.out.er.1 he).1
    have hia:=(hra.out.er.1 he).2
    clear he
    have hbx:=Below.trans' hba.out hbb.out
    have HIj:=jH ((hia.below hbb.out).below ((Below.refl _ _).alloc (jR _) (.cells #[.pointer qj] 26)))
    have HHj:=jH ((HHi.out.below hbx).add #[.pointer qj] 26)
    have HWj:=jH (Below.trans' HWi.out (hbx.alloc hbx.size (.cells #[.pointer qj] 26)))
    have HDj:=jH (hbx.alloc hbx.size (.cells #[.pointer qj] 26))
    clear hba hra hia hbb hbx
    have c1:=HHj.out.cell (b:=W.heap.size) (c:=#[.pointer xu,.pointer xv,.pointer xm]) (T:=28) (by simp) 0
    have c2:=HHj.out.cell (b:=wbi.heap.size) (c:=#[.pointer qi]) (T:=26) (by simp) 0
    have hSh1:=z6 (W:=wbj.alloc (.cells #[.pointer qj] 26)) (HXu.out.below HWj.out) (HIi.out.below HDj.out)
    go_wp2_with fail
    clear c1 c2
    refine hSh1.mono ?_
    rintro e wa ⟨qa,er,rfl,hba,hra0⟩
    have hra:Hid (NR wa (shx x.u (x.v - rr x y)) (.agg #[.pointer qa]) er):=by
     show NR _ _ _ _
     rcases hra0.out with h | h
     ·exact h.2
     ·exact absurd (zM ((rr_le x y).1)) h.1
    have hmu:=qV (W:=wa) qa er
    clear hSh1 hra0
    go_wp2_with fail
    refine hmu.mono ?_
    rintro e wba ⟨⟨he,rfl⟩ | ⟨he,rfl⟩,hbb⟩
    rotate_left
    ·have hz:=hra.out.er.2 he
     rw[hz.2]
     refine And.intro rfl ?_
     exact Or.inr ⟨fun h=>hz.1 ((h.mine HU.out HY.out).2.2.1),rfl,Below.trans' HWj.out (Below.trans' hba.out hbb.out)⟩
    clear hmu
    have HAa:=jH (hra.out.er.1 he).1
    have hia:=(hra.out.er.1 he).2
    clear he
    have hbx:=Below.trans' hba.out hbb.out
    have HIa:=jH ((hia.below hbb.out).below ((Below.refl _ _).alloc (jR _) (.cells #[.pointer qa] 26)))
    have HHa:=jH ((HHj.out.below hbx).add #[.pointer qa] 26)
    have HWa:=jH (Below.trans' HWj.out (hbx.alloc hbx.size (.cells #[.pointer qa] 26)))
    have HDa:=jH (hbx.alloc hbx.size (.cells #[.pointer qa] 26))
    clear hba hra hia hbb hbx
    have c1:=HHa.out.cell (b:=W.heap.size+1) (c:=#[.pointer yu,.pointer yv,.pointer ym]) (T:=28) (by simp) 0
    have c2:=HHa.out.cell (b:=wbj.heap.size) (c:=#[.pointer qj]) (T:=26) (by simp) 0
    have hSh2:=z6 (W:=wba.alloc (.cells #[.pointer qa] 26)) (HYu.out.below HWa.out) (HIj.out.below HDa.out)
    go_wp2_with fail
    clear c1 c2
    refine hSh2.mono ?_
    rintro e wa ⟨qb,er,rfl,hba,hra0⟩
    have hra:Hid (NR wa (shx y.u (y.v+x.m - rr x y)) (.agg #[.pointer qb]) er):=by
     show NR _ _ _ _
     rcases hra0.out with h | h
     ·exact h.2
     ·exact absurd (zM ((rr_le x y).2)) h.1
    have hmu:=qV (W:=wa) qb er
    clear hSh2 hra0
    go_wp2_with fail
    refine hmu.mono ?_
    rintro e wbb ⟨⟨he,rfl⟩ | ⟨he,rfl⟩,hbb⟩
    rotate_left
    ·have hz:=hra.out.er.2 he
     rw[hz.2]
     refine And.intro rfl ?_
     exact Or.inr ⟨fun h=>hz.1 ((h.mine HU.out HY.out).2.2.2.1),rfl,Below.trans' HWa.out (Below.trans' hba.out hbb.out)⟩
    clear hmu
    have HAb:=jH (hra.out.er.1 he).1
    have hia:=(hra.out.er.1 he).2
    clear he
    have hbx:=Below.trans' hba.out hbb.out
    have HIb:=jH ((hia.below hbb.out).below ((Below.refl _ _).alloc (jR _) (.cells #[.pointer qb] 26)))
    have HHb:=jH ((HHa.out.below hbx).add #[.pointer qb] 26)
    have HWb:=jH (Below.trans' HWa.out (hbx.alloc hbx.size (.cells #[.pointer qb] 26)))
    have HDb:=jH (hbx.alloc hbx.size (.cells #[.pointer qb] 26))
    clear hba hra hia hbb hbx
    obtain⟨wR,hwR⟩:∃ wR,wR=wbb.alloc (.cells #[.pointer qb] 26):=⟨_,rfl⟩
    have HIRa:=jH (HIa.out.below HDb.out)
    have HDr7:=jH (Below.trans' (Below.trans' (Below.trans' HDi.out HDj.out) HDa.out) HDb.out)
    have HIRr:=jH (HIr'.out.below HDr7.out)
    have HIRm:=jH (HIm7.out.below HDr7.out)
    go_wp2_with fail
    rw[← hwR] at HHb HWb HIb HIRa HIRr HIRm ⊢
    clear hwR
    have HKx:Hid (∀ w10 w':World,Below wR.heap.size wR w10→(∀ g,g≠W.heap.size+1+1→w'.heap[g]? = w10.heap[g]?)→(w'.cell? ⟨wba.heap.size,0,none⟩=some (.pointer qa)∧w'.cell? ⟨wbb.heap.size,0,none⟩=some (.pointer qb))∧w'.cell? ⟨wt.heap.size,0,none⟩=some (.pointer qq)∧w'.cell? ⟨wbm.heap.size,0,none⟩=some (.pointer qm)):=fun w10 w' hb hg=>by
     have hh:=HHb.out.below hb
     have y3:=hh (W.heap.size+1+1,#[.pointer none,.pointer none,.pointer none],28) (by simp)
     have y1:=hh (wba.heap.size,#[.pointer qa],26) (by simp)
     have y2:=hh (wbb.heap.size,#[.pointer qb],26) (by simp)
     have y7:=hh (wt.heap.size,#[.pointer qq],26) (by simp)
     have y8:=hh (wbm.heap.size,#[.pointer qm],26) (by simp)
     dsimp only at y1 y2 y3 y7 y8
     refine⟨⟨?_,?_⟩,?_,?_⟩
     ·rw[jB ((hg _ (jI y1 y3 (by decide))).trans y1)];rfl
     ·rw[jB ((hg _ (jI y2 y3 (by decide))).trans y2)];rfl
     ·rw[jB ((hg _ (jI y7 y3 (by decide))).trans y7)];rfl
     ·rw[jB ((hg _ (jI y8 y3 (by decide))).trans y8)];rfl
    have hAdd:=yE (W:=wR.drew) (HIRa.out.below ((Below.refl _ _).drew)) (HIb.out.below ((Below.refl _ _).drew))
    go_region_held2 (fun w'=>(w'.cell? ⟨wba.heap.size,0,none⟩=some (.pointer qa)∧w'.cell? ⟨wbb.heap.size,0,none⟩=some (.pointer qb))∧w'.cell? ⟨wt.heap.size,0,none⟩=some (.pointer qq)∧w'.cell? ⟨wbm.heap.size,0,none⟩=some (.pointer qm))
     (first | exact HKx.out wR wR.drew (Below.refl _ _) (fun _ _=>rfl) | exact HKx.out w9 w9 HB9.out (fun _ _=>rfl) | exact HKx.out w10 w10 HB10.out (fun _ _=>rfl) | exact HKx.out w12 w12 HB12.out (fun _ _=>rfl) | exact HKx.out w12 _ HB12.out (fun g hg=>ji w12 hg _ _ _))
     (first
       | (go_at_call 101
          refine hAdd.mono ?_
          rintro e w9 ⟨q9,er,rfl,hb9,hr9⟩
          have HB9:=jH (Below.trans' (W:=wR) ((Below.refl _ _).drew) hb9.out)
          have HI9:=hr9
          have HMu9:=qV (W:=w9) q9 er
          clear hb9 hr9)
       | (go_at_call 89
          refine HMu9.mono ?_
          rintro e w10 ⟨⟨he9,rfl⟩ | ⟨he9,rfl⟩,hb10⟩
          rotate_left
          ·have hz:=HI9.out.er.2 he9
           rw[hz.2]
           refine And.intro rfl ?_
           exact Or.inr ⟨fun h=>hz.1 (h.mine HU.out HY.out).2.2.2.2.1,rfl,Below.trans' HWb.out (Below.trans' HB9.out hb10.out)⟩
          have HA9:=jH (HI9.out.er.1 he9).1
          have HB10:=jH (Below.trans' HB9.out hb10.out)
          have HPl:=yl (W:=w10) ((HI9.out.er.1 he9).2.below hb10.out) (HIRr.out.below HB10.out) (HIRm.out.below HB10.out)
          clear HMu9 hb10 he9)
       | (go_at_call 88
          refine HPl.mono ?_
          rintro e w12 (⟨hok12,pu,pv,pm,rfl,hie,hb12⟩ | ⟨hno,rfl,hb12⟩)
          rotate_left
          ·refine And.intro rfl ?_
           exact Or.inr ⟨fun h=>hno (h.mine HU.out HY.out).2.2.2.2.2,rfl,Below.trans' HWb.out (Below.trans' HB10.out hb12.out)⟩
          have HA12:=jH hok12
          clear hok12
          have HB12:=jH (Below.trans' HB10.out hb12.out)
          have HH12:=jH (HHb.out.below HB12.out)
          have d0:=HH12.out.cell (b:=W.heap.size+1+1) (c:=#[.pointer none,.pointer none,.pointer none]) (T:=28) (by simp) 0
          have d1:=HH12.out.cell (b:=W.heap.size+1+1) (c:=#[.pointer none,.pointer none,.pointer none]) (T:=28) (by simp) 1
          have d2:=HH12.out.cell (b:=W.heap.size+1+1) (c:=#[.pointer none,.pointer none,.pointer none]) (T:=28) (by simp) 2
          have Y3:=jH (HH12.out (W.heap.size+1+1,#[.pointer none,.pointer none,.pointer none],28) (by simp))
          have f0:=jF Y3.out 0
          have f1:=jF Y3.out 1
          have f2:=jF Y3.out 2
          clear HPl hb12))
    go_wp2_with fail
    refine bodyPost_ret (v:=.agg #[.pointer pu,.pointer pv,.pointer pm]) (by simp[results,Tryz.results56,go_sem,d0,d1,d2]) rfl ?_
    refine .inl ⟨⟨HAm.out,HAq.out,fun h=>absurd h HU.out,fun _ h=>absurd h HY.out,fun _ _=>⟨HAi.out,HAj.out,HAa.out,HAb.out,HA9.out,HA12.out⟩⟩,pu,pv,pm,rfl,?_,Below.set3 (Below.trans' HWb.out HB12.out) (by show W.heap.size≤W.heap.size+1+1; omega)⟩
    rw[HTE.out]
    exact IsE.store3 hie.out Y3.out
theorem times_calls {W:World}{V1 V2:Value}{x y:E3}(h1:IsE W V1 x)(h2:IsE W V2 y)(hok:TimesOK x y): Calls Tryz.prog 56 #[V1,V2] W (PQ (timesE x y) W) :=
 (zp h1 h2).mono fun _ _ h=>h.elim (fun h=>h.2) (fun h=>absurd hok h.1)
end
def RNQ (b:Nat)(W:World)(c p:Nat)(fv:Value)(fl:List Value)(vs:List Int)(full:Bool)(z:Int)(e:Ending)(W':World): Prop :=
 ∃ (q:Nat) (fv':Value) (fl':List Value) (vs':List Int),e=.returned (.int .i64 (q:Nat))∧Hid (RK b W W' c p fv fv' fl fl' vs vs' full)∧Hid (vs'[q]? = some z)
section
variable {b k:Nat} {W:World} {c p:Nat} {fv:Value} {fl:List Value} {vs:List Int} {full:Bool} {i j:Nat} {x y:Int} {n m a b1:Nat}
theorem zq (H:RC b W c p fv fl vs full)(hi:vs[i]? = some x)(hj:vs[j]? = some y)(hx:Sz n a b1 x)(hy:Sz m a b1 y)(hnm:n+m≤2600)(ha:a≤1286)(hk:(sumAsk 0 (form x++form y)).length≤k)(hbk:b+k≤5000000000000):
 Calls Tryz.prog 83 #[.pointer (some ⟨p,0,none⟩),.int .i64 (i:Nat),.int .i64 (j:Nat)] W (RNQ (b+k) W c p fv fl vs full (x+y)):=by
 obtain⟨C,hC,hw⟩:=H.rw
 have hw2:=hw.weaken (C':=C++sumAsk 0 (form x++form y)) (fun v hv=>.inl (List.mem_append.2 (.inl hv))) (by rw[List.length_append];omega)
 refine (rAdd_calls hw2 hi hj (hx.mono (jR _) (jR _) (show b1≤b1+14 by omega)) (hy.mono (jR _) (jR _) (show b1≤b1+14 by omega)) hnm ha (by omega) (fun z hz=>List.mem_append.2 (.inr hz))).mono ?_
 rintro e w1 ⟨q,fv',fl',vs',h1,h2,h3⟩
 exact⟨q,fv',fl',vs',h1,H.put h2.out (by rw[List.length_append];omega),h3⟩
theorem cSub_calls (H:RC b W c p fv fl vs full)(hi:vs[i]? = some x)(hj:vs[j]? = some y)(hx:Sz n a b1 x)(hy:Sz m a b1 y)(hnm:n+m≤2600)(ha:a≤1286)(hk:(-y::sumAsk 0 (form x++form (-y))).length≤k)(hbk:b+k≤5000000000000):
 Calls Tryz.prog 85 #[.pointer (some ⟨p,0,none⟩),.int .i64 (i:Nat),.int .i64 (j:Nat)] W (RNQ (b+k) W c p fv fl vs full (x - y)):=by
 obtain⟨C,hC,hw⟩:=H.rw
 have hw2:=hw.weaken (C':=C++(-y::sumAsk 0 (form x++form (-y)))) (fun v hv=>.inl (List.mem_append.2 (.inl hv))) (by rw[List.length_append];omega)
 refine (rSub_calls hw2 hi hj (hx.mono (jR _) (jR _) (show b1≤b1+14 by omega)) (hy.mono (jR _) (jR _) (show b1≤b1+14 by omega)) hnm ha (by omega) (fun z hz=>List.mem_append.2 (.inr hz))).mono ?_
 rintro e w1 ⟨q,fv',fl',vs',h1,h2,h3⟩
 exact⟨q,fv',fl',vs',h1,H.put h2.out (by rw[List.length_append];omega),h3⟩
theorem cCmp_calls (H:RC b W c p fv fl vs full)(hi:vs[i]? = some x)(hj:vs[j]? = some y):
 Calls Tryz.prog 84 #[.pointer (some ⟨p,0,none⟩),.int .i64 (i:Nat),.int .i64 (j:Nat)] W fun e W'=>e=.returned (.int .i64 (isg (x - y)))∧∃ m,W'=W.drewN m:=by
 obtain⟨C,_,hw⟩:=H.rw
 exact yO hw hi hj
theorem zv (hx:(form x).length≤n)(hy:(form y).length≤m): (sumAsk 0 (form x++form y)).length≤(n+m)*(4*(n+m)+3)+1:=by
 have h:=sumAsk_len (n+m) (form x++form y) 0 (by rw[j5,List.length_append];simp; omega)
 have h1:(form x++form y).length≤n+m:=by rw[List.length_append];omega
 exact Nat.le_trans h (Nat.add_le_add_right (Nat.mul_le_mul_right _ h1) _)
end
structure AtE (vs:List Int)(x:E3)(iu iv im:Nat): Prop where
 u:vs[iu]? = some x.u
 v:vs[iv]? = some x.v
 m:vs[im]? = some x.m
theorem AtE.ext {vs vs':List Int}{x:E3}{iu iv im:Nat}(h:AtE vs x iu iv im)(k:vs <+: vs'): AtE vs' x iu iv im:=⟨jW k h.u,jW k h.v,jW k h.m⟩
structure MS (b:Nat)(W:World)(c p:Nat)(fv:Value)(fl:List Value)(vs:List Int)(full:Bool)(bx bY:Nat)(x y:E3)(iu iv im ju jv jm:Nat): Prop where
 rc:RC b W c p fv fl vs full
 ax:AtE vs x iu iv im
 ay:AtE vs y ju jv jm
 bx:W.heap[bx]? = some (.cells #[.int .i64 (iu:Nat),.int .i64 (iv:Nat),.int .i64 (im:Nat)] 35 (0,0))
 bY:W.heap[bY]? = some (.cells #[.int .i64 (ju:Nat),.int .i64 (jv:Nat),.int .i64 (jm:Nat)] 35 (0,0))
section
variable {b b':Nat} {W W':World} {c p:Nat} {fv fv':Value} {fl fl':List Value} {vs vs':List Int} {full full':Bool} {bx bY:Nat} {x y:E3} {iu iv im ju jv jm:Nat}
theorem MS.below (h:MS b W c p fv fl vs full bx bY x y iu iv im ju jv jm)(hb:Below W.heap.size W W'): MS b W' c p fv fl vs full bx bY x y iu iv im ju jv jm :=
 ⟨h.rc.below hb,h.ax,h.ay,(hb.block _ (jA h.bx).1).trans h.bx,(hb.block _ (jA h.bY).1).trans h.bY⟩
theorem MS.put (h:MS b W c p fv fl vs full bx bY x y iu iv im ju jv jm)(k:RK b' W W' c p fv fv' fl fl' vs vs' full'): MS b' W' c p fv' fl' vs' full' bx bY x y iu iv im ju jv jm :=
 ⟨k.rc,h.ax.ext k.ext,h.ay.ext k.ext,jd h.rc k h.bx (by decide) (by decide) (by decide),jd h.rc k h.bY (by decide) (by decide) (by decide)⟩
def MCell (c p bx bY iu iv im ju jv jm:Nat)(w:World): Prop :=
 w.cell? ⟨c,0,none⟩=some (.pointer (some ⟨p,0,none⟩))∧(w.cell? ⟨bx,0,none⟩=some (.int .i64 (iu:Nat))∧w.cell? ⟨bx,1,none⟩=some (.int .i64 (iv:Nat))∧w.cell? ⟨bx,2,none⟩=some (.int .i64 (im:Nat))) ∧
  w.cell? ⟨bY,0,none⟩=some (.int .i64 (ju:Nat))∧w.cell? ⟨bY,1,none⟩=some (.int .i64 (jv:Nat))∧w.cell? ⟨bY,2,none⟩=some (.int .i64 (jm:Nat))
theorem MS.cells (h:MS b W c p fv fl vs full bx bY x y iu iv im ju jv jm): MCell c p bx bY iu iv im ju jv jm W :=
 ⟨h.rc.c0,⟨by rw[jB h.bx];rfl,by rw[jB h.bx];rfl,by rw[jB h.bx];rfl⟩,by rw[jB h.bY];rfl,by rw[jB h.bY];rfl,by rw[jB h.bY];rfl⟩
end
end Sr
