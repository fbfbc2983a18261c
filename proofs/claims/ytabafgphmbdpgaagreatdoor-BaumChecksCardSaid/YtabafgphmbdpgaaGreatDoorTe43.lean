/- BaumChecks is proved: whatever bytes come in, the call returns true, and they read as they did. -/
import Derived.Test.YtabafgphmbdpgaaGreatDoorTe42
import Derived.Deep.SlicePairs
import Derived.Test.YtabafgphmbdpgaaGreatDoorCards
import Derived.Test.YtabafgphmbdpgaaGreatDoorTie
import Derived.WalkKit
import Derived.ProofKit
import Derived.OpenShut
import Derived.ChangeOld
import Derived.Below
import Derived.ChangeMaps5
import Derived.SizedLaws
import Derived.Lay
import Derived.LaidMore
import Derived.SevenTiedAt
set_option maxHeartbeats 8000000
set_option maxRecDepth 100000
namespace Go.Proofs.YtabafgphmbdpgaaGreatDoor.baumChecks
open Go.ChangeShapes Go.WideShapes Go.ChangeAt Go.RowKit Go.ChangeMaps
theorem own:ownKnob Tryz.prog.godebug=none:=by kernel_rfl
theorem laidOut:laidOutB Tryz.prog=true:=by kernel_rfl
theorem weightsAll_mem {H:Type}{P:Program}{e:TypeId}: ∀ {ds:List (DataW H)} {d:DataW H},d∈ds→∀ n∈d.weights P e,n∈DataW.weightsAll P e ds
 | d0::ds,d,h,n,hn=>by
   simp only[DataW.weightsAll,List.mem_append]
   rcases List.mem_cons.1 h with rfl | h
   ·exact .inl hn
   ·exact .inr (weightsAll_mem h n hn)
 | [],_,h,_,_=>by simp at h
theorem bytes_of {W:World}{H:Type}{enc:TypeId×Value→H}{n:Nat}{u:Value}{D:DataW H}{Pl:List MemPlace}(h:DataW.trod enc Tryz.prog W 0 (fun _=>true) true n 40 [u]=some (D,Pl)): ∃ l,Sr.BIn W u l∧(l=[]∨∃ el sp,D=.slice el sp∧el.length=l.length):=by
 rcases Go.Deep.open_slice1 Tryz.underlying40 (by kernel_rfl) h with ⟨hcs,_⟩ | ⟨a,len,cap,m,n',V,D',Pl',hcs,_,hl,_,hmm,hD,hx⟩
 ·simp at hcs
  exact⟨[],.inl ⟨hcs,rfl⟩,.inl rfl⟩
 ·simp at hcs
  subst hcs
  have hlm:len≤m:=by rw[hmm];split <;>omega
  by_cases h0:len=0
  ·subst h0
   exact⟨[],.inr (.inl ⟨a,cap,rfl,rfl⟩),.inl rfl⟩
  ·have each:∀ i,∃ b:UInt8,i<len→V i=.int .u8 (b.toNat:Nat):=fun i=>by
    by_cases hi:i<len
    ·obtain⟨h1,h2⟩:=hx i (by omega)
     obtain⟨k,e1,_,hw⟩:=DataW.trod_int Tryz.underlying5 h2
     simp at e1
     have hk:0≤k∧k≤255:=by simpa [Lit.wf,IntKind.min,IntKind.max,IntKind.signed,IntKind.bits] using hw
     refine⟨UInt8.ofNat k.toNat,fun _=>?_⟩
     rw[e1]
     congr 1
     have:(UInt8.ofNat k.toNat).toNat=k.toNat:=by simp; omega
     rw[this];omega
    ·exact⟨0,fun h=>absurd h hi⟩
   obtain⟨f,hf⟩:=Classical.skolem.1 each
   obtain⟨g,off,spot⟩:=a
   have hspot:spot=none:=by simpa [Addr.add] using World.cell?_spot (hx 0 (by omega)).1
   subst hspot
   refine⟨(List.range len).map f,.inr (.inr ⟨g,off,cap,by simp,fun j b hj=>?_⟩),.inr ⟨_,_,(Prod.mk.inj hD).1,by simp⟩⟩
   have hjl:j<len:=by
    have:=(List.getElem?_eq_some_iff.1 hj).1
    simpa using this
   rw[List.getElem?_map,List.getElem?_range hjl] at hj
   simp at hj
   subst hj
   rw[← hf j hjl,← (hx j (by omega)).1,Addr.add_lit]
theorem steps_of {W:World}{base:Nat}{H:Type}{enc:TypeId×Value→H}{v:Value}{d:DataW H}{p:List MemPlace}(hval:Value.okWide Tryz.prog W .any base 23 v)(h:DataW.Trod enc Tryz.prog W 0 (fun _=>true) true 23 v d p) 
 (hsz:∀ n∈d.weights Tryz.prog 23,n≤reachBytes):∃ S,Sr.SIn W v S∧(∀ t∈S,t.2.length≤140737488355328)∧S.length≤maxLen:=by
 obtain⟨a0,len0,cap0,rfl⟩:=okWide_slice Tryz.underlying23 hval
 obtain⟨fuel,hf⟩:=h
 rcases Go.Deep.open_slice_pairs Tryz.underlying23 Tryz.underlying42 (by kernel_rfl) rfl rfl (by kernel_rfl) (by kernel_rfl) hf with ⟨hcs,_⟩ | ⟨a,len,cap,m,n,V0,V1,D0,D1,P0,P1,hcs,_,hl,hm,hmm,hd,hx⟩
 ·simp[Value.cells] at hcs
  obtain⟨rfl,rfl,rfl⟩:=hcs
  exact⟨[],⟨none,0,rfl,fun j s hs=>by simp at hs⟩,fun t ht=>by simp at ht,Nat.zero_le _⟩
 ·simp[Value.cells] at hcs
  obtain⟨rfl,rfl,rfl⟩:=hcs
  have hlm:len0≤m:=by rw[hmm];split <;>omega
  have hd':d=.slice ((List.range len0).map fun i=>.agg [D0 i,D1 i]) ((List.range (m - len0)).map fun j=>.agg [D0 (len0+j),D1 (len0+j)]):=(Prod.mk.inj hd).1
  have each:∀ i,∃ q:Int×List UInt8,i<len0→V0 i=.int .i64 q.1∧(-9223372036854775808≤q.1∧q.1≤9223372036854775807)∧Sr.BIn W (V1 i) q.2∧q.2.length≤140737488355328:=fun i=>by
   by_cases hi:i<len0
   ·obtain⟨_,_,h3,h4⟩:=hx i (by omega)
    obtain⟨k,e1,_,hw⟩:=DataW.trod_int Tryz.underlying3 h3
    obtain⟨l,hb,hls⟩:=bytes_of h4
    simp at e1
    have hk:-9223372036854775808≤k∧k≤9223372036854775807:=by simpa [Lit.wf,IntKind.min,IntKind.max,IntKind.signed,IntKind.bits] using hw
    refine⟨(k,l),fun _=>⟨e1,hk,hb,?_⟩⟩
    rcases hls with rfl | ⟨el,sp,hD,hel⟩
    ·simp
    ·have hmem:(el.length+sp.length)*Tryz.prog.bytesOf 5∈d.weights Tryz.prog 23:=by
      rw[hd']
      simp only[DataW.weights,Tryz.underlying23,List.mem_cons,List.mem_append]
      refine .inr (.inl (weightsAll_mem (List.mem_map.2 ⟨i,List.mem_range.2 hi,rfl⟩) _ ?_))
      simp only[DataW.weights,Tryz.underlying42,List.map_cons,List.map_nil,DataW.weightsEach,List.mem_append]
      refine .inr (.inl ?_)
      rw[hD]
      simp[DataW.weights,Tryz.underlying40]
     have h1:=hsz _ hmem
     have h2:Tryz.prog.bytesOf 5=1:=by kernel_rfl
     have h3:=reachBytes_lt
     rw[h2] at h1
     show l.length≤_
     omega
   ·exact⟨(0,[]),fun h=>absurd h hi⟩
  obtain⟨f,hfx⟩:=Classical.skolem.1 each
  refine⟨(List.range len0).map f,⟨some a,cap0,by simp,fun j s hs=>?_⟩,fun t ht=>?_,by simp; omega⟩
  ·rw[List.getElem?_map] at hs
   have hj:j<len0:=by
    rcases Nat.lt_or_ge j len0 with h | h
    ·exact h
    ·rw[List.getElem?_eq_none (by simpa using h)] at hs; cases hs
   rw[List.getElem?_range hj] at hs
   simp at hs
   subst hs
   obtain⟨c0,c1,_,_⟩:=hx j (by omega)
   obtain⟨e0,e1,e2,_⟩:=hfx j hj
   obtain⟨g,off,spot⟩:=a
   have hspot:spot=none:=by simpa [Addr.add] using World.cell?_spot (hx 0 (by omega)).1
   subst hspot
   rw[Addr.add_lit] at c0 c1
   exact⟨e1,g,off,V1 j,rfl,by rw[← e0];exact c0,by rw[Nat.add_assoc];exact c1,e2⟩
  ·obtain⟨j,hj,rfl⟩:=List.mem_map.1 ht
   exact (hfx j (List.mem_range.1 hj)).2.2.2
theorem lifted (os:Os)(started:os.Started)(H:Type)(enc:TypeId×Value→H):
 ReturnsInHanded {} Tryz.checked os 8 .any (fun w args=>(Rows.baumChecksSpec.pre enc Tryz.prog Tryz.f8 [] false w args∧laidMetH Tryz.prog Rows.baumChecksRow.laid w)∧sizedMet enc Tryz.prog Tryz.f8 (OpenSpec.ofChange Rows.baumChecksSpec) false w args)
  (Rows.baumChecksSpec.post enc Tryz.prog Tryz.f8 false true false false):=by
 refine returnsInHanded_of_change_and (C:=Tryz.checked) (X:=fun w _=>laidMetH Tryz.prog Rows.baumChecksRow.laid w) (fun _ _ _ hh h=>h.of_heap hh) own started (by kernel_rfl) Tryz.func8
  (ChangeSpec.witness_shaped (enc:=enc) (C:=Tryz.checked) (os:=os) (X:=fun w _=>laidMetH Tryz.prog Rows.baumChecksRow.laid w) false (World.laidAll Tryz.prog os Rows.baumChecksRow.laid) #[.string ⟨#[]⟩,.slice none 0 0] 8 (World.laidAll_os _ _ _)
    (World.shaped_of_ZipB (by kernel_rfl) (by kernel_rfl)) (by kernel_rfl) (by kernel_rfl) (by kernel_rfl)
    (by rw[MakeChecks.laidMetH_plain _ _ _ (by kernel_rfl)];exact laidMet_laidAll _ (by kernel_rfl) (by kernel_rfl))) ?_
 intro W base args ds gs before hval0 hW _ hsz _ _
 have hval:∀ (j:Nat) t v,Tryz.f8.params[j]? = some t→args[j]? = some v→Value.okWide Tryz.prog W .any base t v:=hval0
 have hW':=hW
 obtain⟨p,q,hA0,hV,rfl,_,_⟩:=hW
 have hA:DataW.TrodAll enc Tryz.prog W 0 (fun _=>true) true Tryz.f8.params.toList args.toList ds p:=hA0
 have hsz':(DataW.weightsEach Tryz.prog (Tryz.f8.params.toList++Rows.baumChecksSpec.plain.varTypes Tryz.prog) (ds++gs)).all (·≤reachBytes)=true:=hsz
 rw[Tryz.params8] at hA hval hsz'
 obtain⟨v0,v1,d0,d1,p0,p1,rfl,rfl,rfl,h0,h1⟩:=trodAll_two hA
 obtain⟨rfl,rfl⟩:=trodVars_none hV
 obtain⟨s,rfl,rfl,rfl,hs⟩:=open_string Tryz.underlying9 (hval 0 9 v0 rfl rfl) h0
 have lt1:∀ x∈p1,x.block<W.heap.size:=by obtain⟨m,hm⟩:=h1; exact DataW.trod_lt m _ _ _ hm
 obtain⟨S,hS,hSb,-⟩:=steps_of (hval 1 23 v1 rfl rfl) h1 (fun n hn=>by
  have h:=List.all_eq_true.1 hsz' n (DataW.weights_mem_each (j:=1) (t:=23) (d:=d1) rfl rfl n hn)
  simpa using h)
 simp only[List.append_nil] at hW'
 refine (Sr.checks_calls (W:=W) (s:=s) (Nat.le_trans hs (by decide)) hS hSb).mono fun e W' ⟨he,bel⟩=>?_
 subst he
 exact⟨_,rfl,_,_,_,[],_,[],hW',trodAll_mk1 (shut_bool Tryz.underlying4 _),trodAll_mk2 (shut_string Tryz.underlying9 hs) (Below.trod laidOut (by kernel_rfl) (of_decide_eq_true (by kernel_rfl)) h1 bel.out lt1),rfl,bel.out.frame _,fun h=>by cases h⟩
theorem said:Rows.BaumChecksSaid :=
 OpenClaim.holds_of_wide 8 Tryz.f8 rfl rfl rfl rfl rfl rfl rfl ⟨rfl,rfl,rfl,rfl,rfl⟩ rfl rfl rfl rfl rfl (by kernel_rfl) Tryz.func8 (by kernel_rfl)
  (of_decide_eq_true (by kernel_rfl)) (by unfold Func.isWrapper; first | (rw[if_pos (by decide +kernel)];kernel_rfl) | (rw[if_neg (by decide +kernel)];exact⟨rfl,rfl⟩))
  (fun os started H enc _=>lifted os started H enc)
theorem plain (f : FuncId)(fn : Func)(hf : Tryz.pinned.checked.prog.funcNamed "sandreckoner/sandreckonerlaw05.BaumChecks" = some f)(hfn : Tryz.pinned.checked.prog.funcs[f]? = some fn):
 true=Tryz.pinned.checked.prog.looks []∧∀ (j:Nat) t,fn.params[j]? = some t→Tryz.pinned.checked.prog.wantsStandIn t=false:=by
 obtain rfl : f = 8 := Option.some.inj ((show Tryz.prog.funcNamed "sandreckoner/sandreckonerlaw05.BaumChecks" = some 8 by kernel_rfl).symm.trans hf) |>.symm
 obtain rfl:fn=Tryz.f8:=(Option.some.inj (Tryz.func8.symm.trans hfn)).symm
 refine⟨by kernel_rfl,fun j t ht=>?_⟩
 rw[Tryz.params8] at ht
 obtain rfl | rfl:t=9∨t=23:=by simpa using Array.mem_of_getElem? ht
 ·exact (show Tryz.prog.wantsStandIn 9=false by kernel_rfl)
 ·exact (show Tryz.prog.wantsStandIn 23=false by kernel_rfl)
theorem card:Rows.BaumChecksCardSaid :=
 Claim7.holds_tied_plain_at .later [] _ _ _ _ said (fun _ h=>by cases h) (by kernel_rfl) (fun _ h=>by cases h) baumChecks_row_tie rfl ⟨rfl,rfl⟩ (by kernel_rfl) rfl plain (by kernel_rfl)
end Go.Proofs.YtabafgphmbdpgaaGreatDoor.baumChecks
namespace Go.Proofs.YtabafgphmbdpgaaGreatDoor
theorem baumChecks_card:Rows.BaumChecksCardSaid:=baumChecks.card
#print axioms baumChecks_card
end Go.Proofs.YtabafgphmbdpgaaGreatDoor
