/- Texts of this claim, joined: RTr, CkU. -/
import Derived.Test.YtabafgphmbdpgaaGreatDoorTe1
import Derived.Test.YtabafgphmbdpgaaGreatDoorTe27
import Derived.Test.YtabafgphmbdpgaaGreatDoorTe37
import Derived.Test.YtabafgphmbdpgaaGreatDoorTe40
set_option maxHeartbeats 8000000
set_option maxRecDepth 100000
namespace Sr
open Go Go.Proofs Go.RowKit Go.Maps Go.WideMaps
section
open Classical in
noncomputable def outc (l:List UInt8): List (Nat×Int)×Nat×E3×Int :=
 if isWordL l=true then (match traceE l with
  | none=>([],0,Zero,5)
  | some (st,o,G)=>(st,o.length,endE o G,0)) else ([],0,Zero,2)
variable {l:List UInt8} {W:World} {q:Nat}
theorem outc_bad (h:isWordL l=false): outc l=([],0,Zero,2):=by unfold outc; rw[if_neg (by simp[h])]
theorem outc_full (h:isWordL l=true)(h1:traceE l=none): outc l=([],0,Zero,5):=by unfold outc; rw[if_pos h,h1]
theorem outc_ok (h:isWordL l=true){st:List (Nat×Int)}{o:List UInt8}{G:List E3}(h1:traceE l=some (st,o,G)): outc l=(st,o.length,endE o G,0):=by unfold outc; rw[if_pos h,h1]
def TrU (oc:List (Nat×Int)×Nat×E3×Int)(W:World)(e:Ending)(W':World): Prop :=
 ∃ (sa:Option Addr) (sn sc:Nat) (qu qv qm:Option Addr),e=.returned (.tuple #[.slice sa sn sc,.int .i64 (oc.2.1:Nat),.agg #[.pointer qu,.pointer qv,.pointer qm],.int .i64 oc.2.2.2])∧Hid (Below W.heap.size W W')∧Hid (StRow W.heap.size W' (.slice sa sn sc) oc.1)∧Hid (IsE W' (.agg #[.pointer qu,.pointer qv,.pointer qm]) oc.2.2.1)
theorem trU {s:ByteArray}(hs:s.size≤9223372036854775807): Calls Tryz.prog 14 #[.string s] W (TrU (outc s.data.toList) W):=by
 refine (Trace_any hs).mono ?_
 rintro e W' ⟨hb,⟨h1,rfl⟩ | ⟨h1,h2,rfl⟩ | ⟨h1,st,o,G,h2,sa,sn,sc,qu,qv,qm,rfl,h3,h4⟩⟩
 ·rw[outc_bad h1]
  exact⟨none,0,0,none,none,none,rfl,hb,StRow.nil _ _,none,none,none,rfl,j4 _,j4 _,j4 _⟩
 ·rw[outc_full h1 h2]
  exact⟨none,0,0,none,none,none,rfl,hb,StRow.nil _ _,none,none,none,rfl,j4 _,j4 _,j4 _⟩
 ·rw[outc_ok h1 h2]
  exact⟨sa,sn,sc,qu,qv,qm,rfl,hb,h3,h4⟩
theorem StRow.lo {B0 B1:Nat}{w:World}{v:Value}{st:List (Nat×Int)}(h:StRow B0 w v st)(hb:B1≤B0): StRow B1 w v st:=by
 obtain⟨vs,h1,h2,h3⟩:=h.row
 exact⟨⟨vs,h1,h2,fun i u s hu hs=>⟨(h3 i u s hu hs).1,fun b hb'=>Nat.le_trans hb ((h3 i u s hu hs).2 b hb')⟩⟩,fun b hb'=>Nat.le_trans hb (h.own b hb')⟩
theorem rF_rB {p b:Nat}{fv:Value}{fl:List Value}(h:b∈rF p fv): b∈rB p fv fl:=by
 rcases List.mem_cons.1 h with rfl | h
 ·exact yK.2 (.inl rfl)
 ·exact yK.2 (.inr (.inl (by simpa using h)))
theorem end6_rw {C:List Int}{p:Nat}{fv:Value}{fl:List Value}{vs:List Int}(h:RW C W p fv fl vs){cs:Array Value}(hq:W.heap[q]? = some (.cells cs 37 (0,0)))(v0 v1 v2 v3 v4 v5:Value):
 RW C ((((((W.setCell ⟨q,0,none⟩ v0).setCell ⟨q,1,none⟩ v1).setCell ⟨q,2,none⟩ v2).setCell ⟨q,3,none⟩ v3).setCell ⟨q,4,none⟩ v4).setCell ⟨q,5,none⟩ v5) p fv fl vs :=
 h.kept fun b hb=>heap_end6 W (fun e=>by subst e; exact h.other hq (by decide) (by decide) (by decide) hb) v0 v1 v2 v3 v4 v5
theorem fr1 {F:List Nat}{W0:World}(h:Fr F W0 W)(hq:W0.heap.size≤q)(o:Nat)(v:Value): Fr F W0 (W.setCell ⟨q,o,none⟩ v) :=
 ⟨h.os,h.tape,h.output,by have:=h.size; simpa using this,fun b hb hn=>(jS _ _ _ _ (by show b≠q; omega)).trans (h.block b hb hn)⟩
theorem end6_fr {F:List Nat}{W0:World}(h:Fr F W0 W)(hq:W0.heap.size≤q)(v0 v1 v2 v3 v4 v5:Value):
 Fr F W0 ((((((W.setCell ⟨q,0,none⟩ v0).setCell ⟨q,1,none⟩ v1).setCell ⟨q,2,none⟩ v2).setCell ⟨q,3,none⟩ v3).setCell ⟨q,4,none⟩ v4).setCell ⟨q,5,none⟩ v5) :=
 fr1 (fr1 (fr1 (fr1 (fr1 (fr1 h hq 0 v0) hq 1 v1) hq 2 v2) hq 3 v3) hq 4 v4) hq 5 v5
end
theorem pinI_R (o:List UInt8)(G:List E3)(i:Int): pinI o G i=pinR o G i:=by
 unfold pinI pinR
 rw[Bool.decide_and]
noncomputable def ckOut (l:List UInt8)(S:List Stp): Nat×E3×Int :=
 if isWordL l=true then (match checkE l S with
  | .error n=>(0,Zero,n)
  | .ok (o,G)=>(o.length,endE o G,0)) else (0,Zero,2)
theorem ckU {W:World}{s:ByteArray}(hs:s.size≤9223372036854775807){v:Value}{S:List Stp}(hv:SRd W v S)(hSl:S.length≤1000000000): Calls Tryz.prog 33 #[.string s,v] W fun e W' =>
 ∃ qu qv qm,e=.returned (.tuple #[.int .i64 ((ckOut s.data.toList S).1:Nat),.agg #[.pointer qu,.pointer qv,.pointer qm],.int .i64 (ckOut s.data.toList S).2.2])∧Hid (Below W.heap.size W W')∧Hid (IsE W' (.agg #[.pointer qu,.pointer qv,.pointer qm]) (ckOut s.data.toList S).2.1):=by
 refine (Check_any hs hv hSl).mono ?_
 rintro e W' ⟨hb,⟨h1,rfl⟩ | ⟨n,h1,h2,rfl⟩ | ⟨h1,o,G,h2,qu,qv,qm,rfl,h3⟩⟩
 ·have:ckOut s.data.toList S=(0,Zero,2):=by unfold ckOut; rw[if_neg (by simp[h1])]
  rw[this];exact⟨none,none,none,rfl,hb,none,none,none,rfl,j4 _,j4 _,j4 _⟩
 ·have:ckOut s.data.toList S=(0,Zero,n):=by unfold ckOut; rw[if_pos h1,h2]
  rw[this];exact⟨none,none,none,rfl,hb,none,none,none,rfl,j4 _,j4 _,j4 _⟩
 ·have:ckOut s.data.toList S=(o.length,endE o G,0):=by unfold ckOut; rw[if_pos h1,h2]
  rw[this];exact⟨qu,qv,qm,rfl,hb,h3⟩
theorem ckOut_err {l:List UInt8}{S:List Stp}{n:Int}(h:isWordL l=true)(h1:checkE l S=.error n): ckOut l S=(0,Zero,n):=by unfold ckOut; rw[if_pos h,h1]
end Sr
