/- BaumOrders is proved: whatever bytes come in, the call returns true, and they read as they did. -/
import Derived.Test.YtabafgphmbdpgaaGreatDoorTe44
import Derived.Deep.SlicePairs
import Derived.Test.YtabafgphmbdpgaaGreatDoorCards
import Derived.Test.YtabafgphmbdpgaaGreatDoorTie
import Derived.WalkKit
import Derived.ProofKit
import Derived.OpenShut
import Derived.ChangeOld
import Derived.Below
import Derived.ChangeMaps5
import Derived.SizedLaws
import Derived.Lay
import Derived.LaidMore
import Derived.SevenTiedAt
set_option maxHeartbeats 8000000
set_option maxRecDepth 100000
namespace Go.Proofs.YtabafgphmbdpgaaGreatDoor.baumOrders
open Go.ChangeShapes Go.WideShapes Go.ChangeAt Go.RowKit Go.ChangeMaps
theorem own:ownKnob Tryz.prog.godebug=none:=by kernel_rfl
theorem laidOut:laidOutB Tryz.prog=true:=by kernel_rfl
theorem bytes_of {W:World}{H:Type}{enc:TypeId×Value→H}{n:Nat}{u:Value}{D:DataW H}{Pl:List MemPlace}(h:DataW.trod enc Tryz.prog W 0 (fun _=>true) true n 40 [u]=some (D,Pl)): ∃ l,Sr.BIn W u l:=by
 rcases Go.Deep.open_slice1 Tryz.underlying40 (by kernel_rfl) h with ⟨hcs,_⟩ | ⟨a,len,cap,m,n',V,D',Pl',hcs,_,hl,_,hmm,hD,hx⟩
 ·simp at hcs
  exact⟨[],.inl ⟨hcs,rfl⟩⟩
 ·simp at hcs
  subst hcs
  have hlm:len≤m:=by rw[hmm];split <;>omega
  by_cases h0:len=0
  ·subst h0
   exact⟨[],.inr (.inl ⟨a,cap,rfl,rfl⟩)⟩
  ·have each:∀ i,∃ b:UInt8,i<len→V i=.int .u8 (b.toNat:Nat):=fun i=>by
    by_cases hi:i<len
    ·obtain⟨h1,h2⟩:=hx i (by omega)
     obtain⟨k,e1,_,hw⟩:=DataW.trod_int Tryz.underlying5 h2
     simp at e1
     have hk:0≤k∧k≤255:=by simpa [Lit.wf,IntKind.min,IntKind.max,IntKind.signed,IntKind.bits] using hw
     refine⟨UInt8.ofNat k.toNat,fun _=>?_⟩
     rw[e1]
     congr 1
     have:(UInt8.ofNat k.toNat).toNat=k.toNat:=by simp; omega
     rw[this];omega
    ·exact⟨0,fun h=>absurd h hi⟩
   obtain⟨f,hf⟩:=Classical.skolem.1 each
   obtain⟨g,off,spot⟩:=a
   have hspot:spot=none:=by simpa [Addr.add] using World.cell?_spot (hx 0 (by omega)).1
   subst hspot
   refine⟨(List.range len).map f,.inr (.inr ⟨g,off,cap,by simp,fun j b hj=>?_⟩)⟩
   have hjl:j<len:=by
    have:=(List.getElem?_eq_some_iff.1 hj).1
    simpa using this
   rw[List.getElem?_map,List.getElem?_range hjl] at hj
   simp at hj
   subst hj
   rw[← hf j hjl,← (hx j (by omega)).1,Addr.add_lit]
theorem lifted (os:Os)(started:os.Started)(H:Type)(enc:TypeId×Value→H):
 ReturnsInHanded {} Tryz.checked os 10 .any (fun w args=>(Rows.baumOrdersSpec.pre enc Tryz.prog Tryz.f10 [] false w args∧laidMetH Tryz.prog Rows.baumOrdersRow.laid w)∧sizedMet enc Tryz.prog Tryz.f10 (OpenSpec.ofChange Rows.baumOrdersSpec) false w args)
  (Rows.baumOrdersSpec.post enc Tryz.prog Tryz.f10 false true false false):=by
 refine returnsInHanded_of_change_and (C:=Tryz.checked) (X:=fun w _=>laidMetH Tryz.prog Rows.baumOrdersRow.laid w) (fun _ _ _ hh h=>h.of_heap hh) own started (by kernel_rfl) Tryz.func10
  (ChangeSpec.witness_shaped (enc:=enc) (C:=Tryz.checked) (os:=os) (X:=fun w _=>laidMetH Tryz.prog Rows.baumOrdersRow.laid w) false (World.laidAll Tryz.prog os Rows.baumOrdersRow.laid) #[.string ⟨#[]⟩,.slice none 0 0] 8 (World.laidAll_os _ _ _)
    (World.shaped_of_ZipB (by kernel_rfl) (by kernel_rfl)) (by kernel_rfl) (by kernel_rfl) (by kernel_rfl)
    (by rw[MakeChecks.laidMetH_plain _ _ _ (by kernel_rfl)];exact laidMet_laidAll _ (by kernel_rfl) (by kernel_rfl))) ?_
 intro W base args ds gs before hval0 hW _ _ _ _
 have hval:∀ (j:Nat) t v,Tryz.f10.params[j]? = some t→args[j]? = some v→Value.okWide Tryz.prog W .any base t v:=hval0
 have hW':=hW
 obtain⟨p,q,hA0,hV,rfl,_,_⟩:=hW
 have hA:DataW.TrodAll enc Tryz.prog W 0 (fun _=>true) true Tryz.f10.params.toList args.toList ds p:=hA0
 rw[Tryz.params10] at hA hval
 obtain⟨v0,v1,d0,d1,p0,p1,rfl,rfl,rfl,h0,h1⟩:=trodAll_two hA
 obtain⟨rfl,rfl⟩:=trodVars_none hV
 obtain⟨s,rfl,rfl,rfl,hs⟩:=open_string Tryz.underlying9 (hval 0 9 v0 rfl rfl) h0
 have lt1:∀ x∈p1,x.block<W.heap.size:=by obtain⟨m,hm⟩:=h1; exact DataW.trod_lt m _ _ _ hm
 obtain⟨a0,len0,cap0,rfl⟩:=okWide_slice Tryz.underlying40 (hval 1 40 v1 rfl rfl)
 obtain⟨cl,hcl⟩:∃ l,Sr.BIn W (.slice a0 len0 cap0) l:=by
  obtain⟨fuel,hf⟩:=h1
  exact bytes_of hf
 simp only[List.append_nil] at hW'
 refine (Sr.orders_calls (W:=W) (s:=s) (Nat.le_trans hs (by decide)) hcl).mono fun e W' ⟨he,bel⟩=>?_
 subst he
 exact⟨_,rfl,_,_,_,[],_,[],hW',trodAll_mk1 (shut_bool Tryz.underlying4 _),trodAll_mk2 (shut_string Tryz.underlying9 hs) (Below.trod laidOut (by kernel_rfl) (of_decide_eq_true (by kernel_rfl)) h1 bel.out lt1),rfl,bel.out.frame _,fun h=>by cases h⟩
theorem said:Rows.BaumOrdersSaid :=
 OpenClaim.holds_of_wide 10 Tryz.f10 rfl rfl rfl rfl rfl rfl rfl ⟨rfl,rfl,rfl,rfl,rfl⟩ rfl rfl rfl rfl rfl (by kernel_rfl) Tryz.func10 (by kernel_rfl)
  (of_decide_eq_true (by kernel_rfl)) (by unfold Func.isWrapper; first | (rw[if_pos (by decide +kernel)];kernel_rfl) | (rw[if_neg (by decide +kernel)];exact⟨rfl,rfl⟩))
  (fun os started H enc _=>lifted os started H enc)
theorem plain (f : FuncId)(fn : Func)(hf : Tryz.pinned.checked.prog.funcNamed "sandreckoner/sandreckonerlaw05.BaumOrders" = some f)(hfn : Tryz.pinned.checked.prog.funcs[f]? = some fn):
 true=Tryz.pinned.checked.prog.looks []∧∀ (j:Nat) t,fn.params[j]? = some t→Tryz.pinned.checked.prog.wantsStandIn t=false:=by
 obtain rfl : f = 10 := Option.some.inj ((show Tryz.prog.funcNamed "sandreckoner/sandreckonerlaw05.BaumOrders" = some 10 by kernel_rfl).symm.trans hf) |>.symm
 obtain rfl:fn=Tryz.f10:=(Option.some.inj (Tryz.func10.symm.trans hfn)).symm
 refine⟨by kernel_rfl,fun j t ht=>?_⟩
 rw[Tryz.params10] at ht
 obtain rfl | rfl:t=9∨t=40:=by simpa using Array.mem_of_getElem? ht
 ·exact (show Tryz.prog.wantsStandIn 9=false by kernel_rfl)
 ·exact (show Tryz.prog.wantsStandIn 40=false by kernel_rfl)
theorem card:Rows.BaumOrdersCardSaid :=
 Claim7.holds_tied_plain_at .later [] _ _ _ _ said (fun _ h=>by cases h) (by kernel_rfl) (fun _ h=>by cases h) baumOrders_row_tie rfl ⟨rfl,rfl⟩ (by kernel_rfl) rfl plain (by kernel_rfl)
end Go.Proofs.YtabafgphmbdpgaaGreatDoor.baumOrders
namespace Go.Proofs.YtabafgphmbdpgaaGreatDoor
theorem baumOrders_card:Rows.BaumOrdersCardSaid:=baumOrders.card
#print axioms baumOrders_card
end Go.Proofs.YtabafgphmbdpgaaGreatDoor
