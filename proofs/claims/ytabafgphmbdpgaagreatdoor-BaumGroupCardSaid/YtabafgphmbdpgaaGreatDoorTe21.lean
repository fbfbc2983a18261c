/- Texts of this claim, joined: Must. -/
import Derived.Test.YtabafgphmbdpgaaGreatDoorTe1
import Derived.Test.YtabafgphmbdpgaaGreatDoorTe20
import Derived.Recover
import Derived.WalkSmall
import Derived.WalkLawsBesides
import Derived.Deep.RegionHeld2
set_option maxHeartbeats 8000000
set_option maxRecDepth 100000
namespace Sr
open Go Go.Proofs Go.RowKit Go.Maps Go.WideMaps
section
variable {W w:World}
theorem must_ok (q:Option Addr): Calls Tryz.prog 89 #[.agg #[.pointer q],.int .i64 0] W fun e W'=>e=.returned (.agg #[.pointer q])∧Hid (Below W.heap.size W W'):=by
 go_enter Tryz.func89,Tryz.ntmps89
 go_wp2_with fail
 refine bodyPost_ret (v:=.agg #[.pointer q]) (by simp[results,Tryz.results89,go_sem]) rfl ?_
 exact⟨rfl,((Below.refl _ _).alloc (jR _) _).alloc (by simp) _⟩
def pan (n:Int): Ending:=.panicked [{ v:=.iface 29 (.int .i64 n),recovered:=false }]
theorem must_bad (q:Option Addr){er:Int}(h:(er==0)=false): Calls Tryz.prog 89 #[.agg #[.pointer q],.int .i64 er] W fun e W'=>e=pan er∧Hid (Below W.heap.size W W'):=by
 have h2:decide (er=0)=false:=by simpa using h
 go_enter Tryz.func89,Tryz.ntmps89
 go_wp2_with fail
 exact⟨rfl,rfl,((Below.refl _ _).alloc (jR _) _).alloc (by simp) _⟩
theorem qV (q:Option Addr)(er:Int): Calls Tryz.prog 89 #[.agg #[.pointer q],.int .i64 er] W fun e W'=>(er=0∧e=.returned (.agg #[.pointer q])∨er≠0∧e=pan er)∧Hid (Below W.heap.size W W'):=by
 by_cases h:er=0
 ·subst h; exact (must_ok q).mono fun e w ⟨h1,h2⟩=>⟨.inl ⟨rfl,h1⟩,h2⟩
 ·exact (must_bad q (by simpa using h)).mono fun e w ⟨h1,h2⟩=>⟨.inr ⟨h,h1⟩,h2⟩
structure E3 where
 u:Int
 v:Int
 m:Int
def IsE (w:World)(V:Value)(x:E3): Prop:=∃ qu qv qm,V=.agg #[.pointer qu,.pointer qv,.pointer qm]∧IsN w (.agg #[.pointer qu]) x.u∧IsN w (.agg #[.pointer qv]) x.v∧IsN w (.agg #[.pointer qm]) x.m
theorem IsE.below {w w':World}{V:Value}{x:E3}(h:IsE w V x)(hb:Below w.heap.size w w'): IsE w' V x:=by
 obtain⟨a,b,c,h0,h1,h2,h3⟩:=h
 exact⟨a,b,c,h0,h1.below hb,h2.below hb,h3.below hb⟩
theorem j4 (w:World): IsN w (.agg #[.pointer none]) 0:=⟨jX,.inl ⟨rfl,rfl⟩⟩
def plainE (u v m:Int): E3:=if u=0 then ⟨0,0,m⟩ else ⟨shx u (-(lowE u:Int)),v+lowE u,m⟩
def plainOK (u v:Int): Prop:=u=0∨(allowed (shx u (-(lowE u:Int)))∧allowed (v+lowE u))
theorem NR.below {w w':World}{x:Int}{v:Value}{er:Int}(h:NR w x v er)(hb:Below w.heap.size w w'): NR w' x v er:=by
 rcases h with ⟨h1,h2,h3⟩ | h
 ·exact .inl ⟨h1,h2,h3.below hb⟩
 ·exact .inr h
theorem NR.er {w:World}{x:Int}{q:Option Addr}{er:Int}(h:NR w x (.agg #[.pointer q]) er): (er=0→allowed x∧IsN w (.agg #[.pointer q]) x)∧(er≠0→¬ allowed x∧er=5):=by
 rcases h with ⟨h1,h2,h3⟩ | ⟨h1,h2,h3⟩
 ·exact⟨fun _=>⟨h1,h3⟩,fun h=>absurd h2 h⟩
 ·exact⟨fun h=>by omega,fun _=>⟨h1,h2⟩⟩
theorem NR.yes {x:Int}{q:Option Addr}{er:Int}(h:NR w x (.agg #[.pointer q]) er)(ha:allowed x): er=0∧IsN w (.agg #[.pointer q]) x:=by
 rcases h with h | h
 ·exact h.2
 ·exact absurd ha h.1
theorem last_le:∀ {L:List Nat},L.Pairwise (fun a b=>b+1<a)→∀ e∈L,L.getLastD 0≤e
 | [],_,e,he=>by simp at he
 | [a],_,e,he=>by simp at he; subst he; simp
 | a::b::L,hd,e,he=>by
   have e1:(a::b::L).getLastD 0=(b::L).getLastD 0:=by simp[List.getLastD]
   rw[e1]
   obtain⟨h1,h2⟩:=List.pairwise_cons.1 hd
   rcases List.mem_cons.1 he with rfl | he
   ·have h3:=last_le h2 b (by simp)
    have h4:=h1 b (by simp)
    omega
   ·exact last_le h2 e he
theorem zo {u:Int}: shOK u (-(lowE u:Int)):=by
 intro e he
 have h3:=last_le (exps_desc u) e he
 unfold lowE
 omega
theorem qM {x:Int}: isg x=0↔x=0:=by
 unfold isg; constructor
 ·intro h; split at h
  ·omega
  ·split at h <;>omega
 ·rintro rfl; simp
def PQ (x:E3)(W:World)(e:Ending)(W':World): Prop:=∃ qu qv qm,e=.returned (.agg #[.pointer qu,.pointer qv,.pointer qm])∧Hid (IsE W' (.agg #[.pointer qu,.pointer qv,.pointer qm]) x)∧Hid (Below W.heap.size W W')
def PX (ok:Prop)(x:E3)(W:World)(e:Ending)(W':World): Prop:=(ok∧PQ x W e W')∨(¬ ok∧e=pan 5∧Hid (Below W.heap.size W W'))
def set3 (w:World)(b:Nat)(x y z:Value): World:=((w.setCell ⟨b,0,none⟩ x).setCell ⟨b,1,none⟩ y).setCell ⟨b,2,none⟩ z
theorem ji (w:World){b g:Nat}(h:g≠b)(x y z:Value): (set3 w b x y z).heap[g]? = w.heap[g]? :=
 (jS _ _ _ _ h).trans ((jS _ _ _ _ h).trans (jS _ _ _ _ h))
theorem IsE.store3 {V:Value}{x:E3}(h:IsE w V x){b:Nat}{c:Array Value}{T:TypeId}{fz:Nat×Nat}(hb:w.heap[b]? = some (.cells c T fz))(hT:T≠158∧T≠111∧T≠154:=by decide){p q r:Value}: IsE (((w.setCell ⟨b,0,none⟩ p).setCell ⟨b,1,none⟩ q).setCell ⟨b,2,none⟩ r) V x:=by
 have key:∀ {v:Value} {z:Int},IsN w v z→IsN (set3 w b p q r) v z:=fun {v z} hn=>hn.kept fun g c' T' hg ht=>ji w (jI hg hb (by
  rintro rfl
  rcases ht with ht | ht | ht
  ·exact hT.1 ht
  ·exact hT.2.1 ht
  ·exact hT.2.2 ht)) p q r
 obtain⟨qu,qv,qm,h0,h1,h2,h3⟩:=h
 exact⟨qu,qv,qm,h0,key h1,key h2,key h3⟩
theorem Below.set3 (h:Below W.heap.size W w){b:Nat}(hb:W.heap.size≤b){p q r:Value}: Below W.heap.size W (((w.setCell ⟨b,0,none⟩ p).setCell ⟨b,1,none⟩ q).setCell ⟨b,2,none⟩ r):=((h.setCell hb _).setCell hb _).setCell hb _
theorem yl {a b c:Value}{u v m:Int}(ha:IsN W a u)(hb:IsN W b v)(hc:IsN W c m): Calls Tryz.prog 88 #[a,b,c] W (PX (plainOK u v) (plainE u v m) W):=by
 obtain⟨qa,rfl⟩:=ha.ptr
 obtain⟨qb,rfl⟩:=hb.ptr
 obtain⟨qc,rfl⟩:=hc.ptr
 have HA:=jH ha
 have HB:=jH hb
 have HC:=jH hc
 clear ha hb hc
 obtain⟨W0,hW0⟩:∃ W0,W0=(((W.alloc (.cells #[.pointer qa] 26)).alloc (.cells #[.pointer qb] 26)).alloc (.cells #[.pointer qc] 26)).alloc (.cells #[.pointer none,.pointer none,.pointer none] 28):=⟨_,rfl⟩
 have HW0:=jH hW0
 have HB0:Hid (Below W.heap.size W W0):=by show Below _ _ _; rw[hW0];exact ((((Below.refl _ _).alloc (jR _) _).alloc (by simp) _).alloc (by simp; omega) _).alloc (by simp; omega) _
 have hz0:W.heap.size+4=W0.heap.size:=by rw[hW0];simp
 have X0:Hid (W0.heap[W.heap.size]? = some (.cells #[.pointer qa] 26 (0,0))):=by show _=_; rw[hW0,jE _ _ (by simp <;>omega),jE _ _ (by simp <;>omega),jE _ _ (by simp <;>omega)];exact j7 rfl
 have X1:Hid (W0.heap[W.heap.size+1]? = some (.cells #[.pointer qb] 26 (0,0))):=by show _=_; rw[hW0,jE _ _ (by simp <;>omega),jE _ _ (by simp <;>omega)];exact j7 (by simp)
 have X2:Hid (W0.heap[W.heap.size+1+1]? = some (.cells #[.pointer qc] 26 (0,0))):=by show _=_; rw[hW0,jE _ _ (by simp)];exact j7 (by simp)
 have X3:Hid (W0.heap[W.heap.size+1+1+1]? = some (.cells #[.pointer none,.pointer none,.pointer none] 28 (0,0))):=by show _=_; rw[hW0];exact j7 (by simp)
 have hSg:=qQ (HA.out.below HB0.out)
 clear hW0
 by_cases hu:u=0
 ·subst hu
  have h0:isg 0=0:=by simp[isg]
  rw[h0] at hSg
  have HPe:Hid (plainE 0 v m=⟨0,0,m⟩):=by show _=_; simp[plainE]
  go_enter Tryz.func88,Tryz.ntmps88
  go_wp2_with fail
  rw[show (((W.alloc (.cells #[.pointer qa] 26)).alloc (.cells #[.pointer qb] 26)).alloc (.cells #[.pointer qc] 26)).alloc (.cells #[.pointer none,.pointer none,.pointer none] 28)=W0 from HW0.out.symm]
  refine hSg.mono ?_
  rintro e w1 ⟨rfl,hb1⟩
  clear hSg
  have Y2:=jH (Below.here hb1.out X2.out)
  have Y3:=jH (Below.here hb1.out X3.out)
  have c2:w1.cell? ⟨W.heap.size+1+1,0,none⟩=some (.pointer qc):=by rw[jB Y2.out];rfl
  have c30:w1.cell? ⟨W.heap.size+1+1+1,0,none⟩=some (.pointer none):=by rw[jB Y3.out];rfl
  have c31:w1.cell? ⟨W.heap.size+1+1+1,1,none⟩=some (.pointer none):=by rw[jB Y3.out];rfl
  have c32:w1.cell? ⟨W.heap.size+1+1+1,2,none⟩=some (.pointer none):=by rw[jB Y3.out];rfl
  have f3:∀ o,w1.frozen? ⟨W.heap.size+1+1+1,o,none⟩=false:=fun o=>jF Y3.out o
  have f30:=f3 0
  have f31:=f3 1
  have f32:=f3 2
  clear f3
  go_wp2_with fail
  refine bodyPost_ret (v:=.agg #[.pointer none,.pointer none,.pointer qc]) (by simp[results,Tryz.results88,go_sem,c30,c31,c32]) rfl ?_
  refine .inl ⟨.inl rfl,none,none,qc,rfl,?_,Below.set3 (Below.trans' HB0.out hb1.out) (by omega)⟩
  rw[HPe.out]
  exact IsE.store3 ⟨none,none,qc,rfl,j4 _,j4 _,(HC.out.below HB0.out).below hb1.out⟩ Y3.out
 ·have hsz:=mt qM.1 hu
  have hsz2:(isg u==0)=false:=by simpa using hsz
  go_enter Tryz.func88,Tryz.ntmps88
  go_wp2_with fail
  rw[show (((W.alloc (.cells #[.pointer qa] 26)).alloc (.cells #[.pointer qb] 26)).alloc (.cells #[.pointer qc] 26)).alloc (.cells #[.pointer none,.pointer none,.pointer none] 28)=W0 from HW0.out.symm]
  refine hSg.mono ?_
  rintro e w1 ⟨rfl,hb1⟩
  clear hSg
  have HB1:=jH (Below.trans' HB0.out hb1.out)
  have HBx:=jH hb1.out
  have Y0:=jH (Below.here hb1.out X0.out)
  have c0:w1.cell? ⟨W.heap.size,0,none⟩=some (.pointer qa):=by rw[jB Y0.out];rfl
  have HLow:=Low_calls (HA.out.below HB1.out) hu
  clear hb1
  go_wp2_with fail
  refine HLow.mono ?_
  rintro e w2 ⟨ql,rfl,hil,hb2⟩
  have HMu:=must_ok (W:=w2) ql
  clear HLow
  go_wp2_with fail
  refine HMu.mono ?_
  rintro e w3 ⟨rfl,hb3⟩
  have HB3:=jH (Below.trans' hb2.out hb3.out)
  have HIl:=jH (hil.out.below hb3.out)
  clear HMu c0 hil hb2 hb3
  go_wp2_with fail
  obtain⟨w4,hw4⟩:∃ w4,w4=w3.alloc (.cells #[.pointer ql] 26):=⟨_,rfl⟩
  rw[← hw4]
  have HB4:Hid (Below w1.heap.size w1 w4):=by show Below _ _ _; rw[hw4];exact HB3.out.alloc HB3.out.size _
  have X7:Hid (w4.heap[w3.heap.size]? = some (.cells #[.pointer ql] 26 (0,0))):=by show _=_; rw[hw4];exact jD w3 _
  have HIl4:Hid (IsN w4 (.agg #[.pointer ql]) (lowE u:Int)):=by show IsN _ _ _; rw[hw4];exact HIl.out.below ((Below.refl _ _).alloc (jR _) _)
  have HB4W:=jH (Below.trans' HB1.out HB4.out)
  have HB40:=jH (Below.trans' HBx.out HB4.out)
  have HK:Hid (∀ w',Below w4.heap.size w4 w'→w'.cell? ⟨W.heap.size,0,none⟩=some (.pointer qa)∧w'.cell? ⟨w3.heap.size,0,none⟩=some (.pointer ql)∧w'.cell? ⟨W.heap.size+1,0,none⟩=some (.pointer qb)∧w'.cell? ⟨W.heap.size+1+1,0,none⟩=some (.pointer qc)):=fun w' hb =>
   ⟨by rw[jB (Below.here hb (Below.here HB40.out X0.out))];rfl,by rw[jB (Below.here hb X7.out)];rfl,by rw[jB (Below.here hb (Below.here HB40.out X1.out))];rfl,by rw[jB (Below.here hb (Below.here HB40.out X2.out))];rfl⟩
  have hK0:=HK.out w4.drew ((Below.refl _ _).drew)
  have HNeg:∀ w,Below w4.heap.size w4 w→Calls Tryz.prog 87 #[.agg #[.pointer ql]] w fun e w'=>∃ q,e=.returned (.agg #[.pointer q])∧Hid (IsN w' (.agg #[.pointer q]) (-(lowE u:Int)))∧Hid (Below w4.heap.size w4 w')∧Hid (Below w.heap.size w w'):=fun w hb =>
   (Neg_calls (HIl4.out.below hb)).mono fun e w' ⟨q,h1,h2,h3⟩=>⟨q,h1,h2,Below.trans' hb h3.out,h3⟩
  have HSh:∀ q5 w,Below w4.heap.size w4 w→IsN w (.agg #[.pointer q5]) (-(lowE u:Int))→Calls Tryz.prog 28 #[.agg #[.pointer qa],.agg #[.pointer q5]] w fun e w'=>∃ q er,e=.returned (.tuple #[.agg #[.pointer q],.int .i64 er])∧Hid (NR w' (shx u (-(lowE u:Int))) (.agg #[.pointer q]) er)∧Hid (Below w4.heap.size w4 w')∧Hid (Below w.heap.size w w'):=fun q5 w hb hi =>
   (z6 (HA.out.below (Below.trans' HB4W.out hb)) hi).mono fun e w' ⟨q,er,h1,h2,h3⟩=>by
     rcases h3.out with h | h
     ·exact⟨q,er,h1,h.2,Below.trans' hb h2.out,h2⟩
     ·exact absurd zo h.1
  have HMu:∀ q er w z,Below w4.heap.size w4 w→NR w z (.agg #[.pointer q]) er→Calls Tryz.prog 89 #[.agg #[.pointer q],.int .i64 er] w fun e w'=>((e=.returned (.agg #[.pointer q])∧Hid (allowed z)∧Hid (IsN w' (.agg #[.pointer q]) z))∨(Hid (¬ allowed z)∧e=pan 5))∧Hid (Below w4.heap.size w4 w')∧Hid (Below w.heap.size w w'):=fun q er w z hb hi =>
   (qV q er).mono fun e w' ⟨h1,h2⟩=>by
     refine⟨?_,Below.trans' hb h2.out,h2⟩
     rcases h1 with ⟨h3,h4⟩ | ⟨h3,h4⟩
     ·exact .inl ⟨h4,(hi.er.1 h3).1,(hi.er.1 h3).2.below h2.out⟩
     ·exact .inr ⟨(hi.er.2 h3).1,(hi.er.2 h3).2▸h4⟩
  have hbd:Below w4.heap.size w4 w4.drew:=(Below.refl _ _).drew
  have HMH:=jH HMu
  have HSH:=jH HSh
  have HNH:=jH HNeg
  have HBd:=jH hbd
  clear hw4 HMu HSh HNeg hbd hK0
  go_wp2_with fail
  go_region_held2 (fun w'=>w'.cell? ⟨W.heap.size,0,none⟩=some (.pointer qa)∧w'.cell? ⟨w3.heap.size,0,none⟩=some (.pointer ql))
   (first
     | exact⟨(HK.out _ HBd.out).1,(HK.out _ HBd.out).2.1⟩
     | exact⟨(HK.out _ (HBd.out.alloc HBd.out.size _)).1,(HK.out _ (HBd.out.alloc HBd.out.size _)).2.1⟩
     | exact⟨(HK.out _ HB5.out).1,(HK.out _ HB5.out).2.1⟩
     | exact⟨(HK.out _ (HB5.out.alloc HB5.out.size _)).1,(HK.out _ (HB5.out.alloc HB5.out.size _)).2.1⟩
     | exact⟨(HK.out _ HB6.out).1,(HK.out _ HB6.out).2.1⟩
     | exact⟨(HK.out _ (HB6.out.alloc HB6.out.size _)).1,(HK.out _ (HB6.out.alloc HB6.out.size _)).2.1⟩
     | exact⟨(HK.out _ HB7.out).1,(HK.out _ HB7.out).2.1⟩
     | exact⟨(HK.out _ (HB7.out.alloc HB7.out.size _)).1,(HK.out _ (HB7.out.alloc HB7.out.size _)).2.1⟩
     | exact⟨(HK.out _ (HB7.out.setCell (by first | exact HB6.out.size | exact HB5.out.size | exact jR _) _)).1,(HK.out _ (HB7.out.setCell (by first | exact HB6.out.size | exact HB5.out.size | exact jR _) _)).2.1⟩)
   (first
     | (go_at_call 87
        refine Calls.mono (HNH.out _ ?_) ?_
        ·first | exact HBd.out | exact HBd.out.alloc HBd.out.size _
        rintro e w5 ⟨q5,rfl,HI5,HB5,HW5⟩
        first | (have H85:=jH (Below.here HW5.out (jD _ (.cells #[.pointer none] 26)))) | skip)
     | (go_at_call 28
        refine Calls.mono (HSH.out _ _ ?_ ?_) ?_
        ·first | exact HB5.out | exact HB5.out.alloc HB5.out.size _
        ·first | exact HI5.out | exact HI5.out.below ((Below.refl _ _).alloc (jR _) _)
        rintro e w6 ⟨q6,er6,rfl,HI6,HB6,HW6⟩
        first | (have H86:=jH (Below.here HW6.out H85.out)) | (have H86:=jH (Below.here HW6.out (jD w5 (.cells #[.pointer none] 26)))) | skip)
     | (go_at_call 89
        refine Calls.mono (HMH.out _ _ _ (shx u (-(lowE u:Int))) ?_ ?_) ?_
        ·first | exact HB6.out | exact HB6.out.alloc HB6.out.size _
        ·first | exact HI6.out | exact HI6.out.below ((Below.refl _ _).alloc (jR _) _)
        rintro e w7 ⟨⟨rfl,HA7,HI7⟩ | ⟨HA7,rfl⟩,HB7,HW7⟩
        rotate_left
        ·refine And.intro rfl ?_
         exact Or.inr ⟨fun h=>h.elim (fun h=>hu h) (fun h=>HA7.out h.1),rfl,Below.trans' HB4W.out HB7.out⟩
        first | (have H87:=jH (Below.here HW7.out H86.out)) | (have H87:=jH (Below.here HW7.out (jD w6 (.cells #[.pointer none] 26)))) | skip
        first | (have f8:=jF H87.out 0; have c8:=jB H87.out 0; simp only[List.getElem?_toArray,List.getElem?_cons_zero] at c8) | skip))
  all_goals
   first
    | (change Exit.then _ _ _ _ (w7.alloc (.cells #[.pointer q6] 26))
       have hx8:=jD w7 (.cells #[.pointer q6] 26)
       have hb8:=HB7.out.alloc HB7.out.size (.cells #[.pointer q6] 26)
       have hi8:=HI7.out.below ((Below.refl _ _).alloc (jR _) (.cells #[.pointer q6] 26))
       obtain⟨w8,hw8⟩:∃ w8,w8=w7.alloc (.cells #[.pointer q6] 26):=⟨_,rfl⟩
       obtain⟨b8,hb8'⟩:∃ b8,b8=w7.heap.size:=⟨_,rfl⟩
       rw[← hw8] at hx8 hb8 hi8 ⊢
       rw[← hb8'] at hx8 ⊢
       clear hw8 hb8')
    | (change Exit.then _ _ _ _ (w7.setCell ⟨w6.heap.size,0,none⟩ (.pointer q6))
       have hx8:=heap_setCell_same w7 w6.heap.size 0 _ 26 (.pointer q6) H87.out
       have hb8:=HB7.out.setCell (p:=⟨w6.heap.size,0,none⟩) HB6.out.size (.pointer q6)
       have hi8:=HI7.out.setCell (o:=0) H87.out (by decide) (.pointer q6)
       obtain⟨w8,hw8⟩:∃ w8,w8=w7.setCell ⟨w6.heap.size,0,none⟩ (.pointer q6):=⟨_,rfl⟩
       obtain⟨b8,hb8'⟩:∃ b8,b8=w6.heap.size:=⟨_,rfl⟩
       rw[← hw8] at hx8 hb8 hi8 ⊢
       rw[← hb8'] at hx8 ⊢
       clear hw8 hb8')
    | (change Exit.then _ _ _ _ (w7.setCell ⟨w5.heap.size,0,none⟩ (.pointer q6))
       have hx8:=heap_setCell_same w7 w5.heap.size 0 _ 26 (.pointer q6) H87.out
       have hb8:=HB7.out.setCell (p:=⟨w5.heap.size,0,none⟩) HB5.out.size (.pointer q6)
       have hi8:=HI7.out.setCell (o:=0) H87.out (by decide) (.pointer q6)
       obtain⟨w8,hw8⟩:∃ w8,w8=w7.setCell ⟨w5.heap.size,0,none⟩ (.pointer q6):=⟨_,rfl⟩
       obtain⟨b8,hb8'⟩:∃ b8,b8=w5.heap.size:=⟨_,rfl⟩
       rw[← hw8] at hx8 hb8 hi8 ⊢
       rw[← hb8'] at hx8 ⊢
       clear hw8 hb8')
    | (change Exit.then _ _ _ _ (w7.setCell ⟨w4.heap.size,0,none⟩ (.pointer q6))
       have hx8:=heap_setCell_same w7 w4.heap.size 0 _ 26 (.pointer q6) H87.out
       have hb8:=HB7.out.setCell (p:=⟨w4.heap.size,0,none⟩) (jR _) (.pointer q6)
       have hi8:=HI7.out.setCell (o:=0) H87.out (by decide) (.pointer q6)
       obtain⟨w8,hw8⟩:∃ w8,w8=w7.setCell ⟨w4.heap.size,0,none⟩ (.pointer q6):=⟨_,rfl⟩
       obtain⟨b8,hb8'⟩:∃ b8,b8=w4.heap.size:=⟨_,rfl⟩
       rw[← hw8] at hx8 hb8 hi8 ⊢
       rw[← hb8'] at hx8 ⊢
       clear hw8 hb8')
  all_goals
   have HX8:=jH hx8
   have HB8:=jH hb8
   have HI8:=jH hi8
   have HB8W:=jH (Below.trans' HB4W.out HB8.out)
   have HX3w:=jH (Below.here HB8.out (Below.here HB40.out X3.out))
   have HK8:Hid (∀ w',Below w8.heap.size w8 w'→(w'.cell? ⟨W.heap.size+1,0,none⟩=some (.pointer qb)∧w'.cell? ⟨w3.heap.size,0,none⟩=some (.pointer ql)∧w'.cell? ⟨W.heap.size+1+1,0,none⟩=some (.pointer qc))∧w'.cell? ⟨b8,0,none⟩=some (.pointer q6)):=fun w' hb =>
    ⟨(HK.out w' (Below.trans' HB8.out hb)).2.2.1 |> fun h=>⟨h,(HK.out w' (Below.trans' HB8.out hb)).2.1,(HK.out w' (Below.trans' HB8.out hb)).2.2.2⟩,by rw[jB (Below.here hb HX8.out)];rfl⟩
   have hAdd:=yE (W:=w8.drew) ((HB.out.below HB8W.out).below ((Below.refl _ _).drew)) ((HIl4.out.below HB8.out).below ((Below.refl _ _).drew))
   have HKx:Hid (∀ w10 w':World,Below w8.heap.size w8 w10→(∀ g,g≠W.heap.size+1+1+1→w'.heap[g]? = w10.heap[g]?)→(w'.cell? ⟨W.heap.size+1,0,none⟩=some (.pointer qb)∧w'.cell? ⟨w3.heap.size,0,none⟩=some (.pointer ql)∧w'.cell? ⟨W.heap.size+1+1,0,none⟩=some (.pointer qc))∧w'.cell? ⟨b8,0,none⟩=some (.pointer q6)):=fun w10 w' hb hg=>by
    have y1:=Below.here hb (Below.here HB8.out (Below.here HB40.out X1.out))
    have y2:=Below.here hb (Below.here HB8.out (Below.here HB40.out X2.out))
    have y7:=Below.here hb (Below.here HB8.out X7.out)
    have y8:=Below.here hb HX8.out
    have y3:=Below.here hb HX3w.out
    refine⟨⟨?_,?_,?_⟩,?_⟩
    ·rw[jB ((hg _ (jI y1 y3 (by decide))).trans y1)];rfl
    ·rw[jB ((hg _ (jI y7 y3 (by decide))).trans y7)];rfl
    ·rw[jB ((hg _ (jI y2 y3 (by decide))).trans y2)];rfl
    ·rw[jB ((hg _ (jI y8 y3 (by decide))).trans y8)];rfl
   clear hx8 hb8 hi8
   go_wp2_with fail
   go_region_held2 (fun w'=>(w'.cell? ⟨W.heap.size+1,0,none⟩=some (.pointer qb)∧w'.cell? ⟨w3.heap.size,0,none⟩=some (.pointer ql)∧w'.cell? ⟨W.heap.size+1+1,0,none⟩=some (.pointer qc))∧w'.cell? ⟨b8,0,none⟩=some (.pointer q6))
    (first | exact HK8.out w8.drew ((Below.refl _ _).drew) | exact HK8.out _ HB9.out | exact HK8.out _ HB10.out | exact HKx.out w10 _ HB10.out (fun g hg=>ji w10 hg _ _ _))
    (first
      | (go_at_call 101
         refine hAdd.mono ?_
         rintro e w9 ⟨q9,er,rfl,hb9,hr9⟩
         have HB9:=jH (Below.trans' (W:=w8) ((Below.refl _ _).drew) hb9.out)
         have HI9:=hr9
         have HMu9:=qV (W:=w9) q9 er
         clear hb9 hr9)
      | (go_at_call 89
         refine HMu9.mono ?_
         rintro e w10 ⟨⟨he9,rfl⟩ | ⟨he9,rfl⟩,hb10⟩
         rotate_left
         ·have hz:=HI9.out.er.2 he9
          rw[hz.2]
          refine And.intro rfl ?_
          exact Or.inr ⟨fun h=>h.elim (fun h=>hu h) (fun h=>hz.1 h.2),rfl,Below.trans' HB8W.out (Below.trans' HB9.out hb10.out)⟩
         have HB10:=jH (Below.trans' HB9.out hb10.out)
         have HI10:=jH ((HI9.out.er.1 he9).2.below hb10.out)
         have HA10:=jH (HI9.out.er.1 he9).1
         clear he9
         have Y3:=jH (Below.here HB10.out HX3w.out)
         have c30:w10.cell? ⟨W.heap.size+1+1+1,0,none⟩=some (.pointer none):=by rw[jB Y3.out];rfl
         have c31:w10.cell? ⟨W.heap.size+1+1+1,1,none⟩=some (.pointer none):=by rw[jB Y3.out];rfl
         have c32:w10.cell? ⟨W.heap.size+1+1+1,2,none⟩=some (.pointer none):=by rw[jB Y3.out];rfl
         have f30:=jF Y3.out 0
         have f31:=jF Y3.out 1
         have f32:=jF Y3.out 2
         clear HMu9 hb10))
   go_wp2_with fail
   refine bodyPost_ret (v:=.agg #[.pointer q6,.pointer q9,.pointer qc]) (by simp[results,Tryz.results88,go_sem,c30,c31,c32]) rfl ?_
   refine .inl ⟨.inr ⟨HA7.out,HA10.out⟩,q6,q9,qc,rfl,?_,Below.set3 (Below.trans' HB8W.out HB10.out) (by omega)⟩
   have hpe:plainE u v m=⟨shx u (-(lowE u:Int)),v+lowE u,m⟩:=by unfold plainE; rw[if_neg hu]
   rw[hpe]
   exact IsE.store3 ⟨q6,q9,qc,rfl,HI8.out.below HB10.out,HI10.out,(HC.out.below HB8W.out).below HB10.out⟩ Y3.out
end
end Sr
