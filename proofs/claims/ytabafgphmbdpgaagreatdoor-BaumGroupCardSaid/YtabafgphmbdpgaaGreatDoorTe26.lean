/- Texts of this claim, joined: Read, IsW5, Tr1, Tr2. -/
import Derived.Test.YtabafgphmbdpgaaGreatDoorTe1
import Derived.Test.YtabafgphmbdpgaaGreatDoorTe16
import Derived.Test.YtabafgphmbdpgaaGreatDoorTe25
import Derived.Maps.RangeWalk
import Derived.Laws.IdiomStrings
set_option maxHeartbeats 8000000
set_option maxRecDepth 100000
namespace Sr
open Go Go.Proofs Go.RowKit Go.Maps Go.WideMaps
theorem z8:∀ (l:List UInt8) (st:List UInt8×List E3),st.2.length=st.1.length+1→(l.foldl rdStep st).2.length=(l.foldl rdStep st).1.length+1
 | [],_,h=>h
 | c::l,st,h=>z8 l (rdStep st c) (rdStep_len h)
theorem foldl_out:∀ (l:List UInt8) (st:List UInt8×List E3),(l.foldl rdStep st).1.length≤st.1.length+l.length
 | [],_=>by simp
 | c::l,st=>by
   have h1:=foldl_out l (rdStep st c)
   have h2:=rdStep_out (s:=st) (c:=c)
   simp only[List.foldl_cons,List.length_cons];omega
theorem readE_len (l:List UInt8): (readE l).2.length=(readE l).1.length+1:=z8 l _ rfl
theorem readE_out (l:List UInt8): (readE l).1.length≤l.length:=by have:=foldl_out l ([],[Zero]);simpa [readE] using this
theorem bytesRow_get {s:ByteArray}{cap k:Nat}{c:UInt8}(h:s.data.toList[k]? = some c): (bytesRow s cap)[k]? = some (.int .u8 (c.toNat:Nat)):=by
 have hlt:=(jL h).1
 unfold bytesRow
 rw[Array.getElem?_append_left (by simpa using hlt)]
 simp only[Array.getElem?_map]
 rw[← Array.getElem?_toList,h];rfl
def ReadQ (l:List UInt8)(W:World)(e:Ending)(W':World): Prop:=∃ p ov gv q,e=.returned (.pointer (some ⟨p,0,none⟩))∧Hid (Rd W.heap.size W' p ov gv q (readE l).1 (readE l).2)∧Hid (Below W.heap.size W W')
theorem read_calls {W:World}(s:ByteArray)(hs:s.size≤1000): Calls Tryz.prog 47 #[.string s] W (ReadQ s.data.toList W):=by
 have u5:Tryz.prog.underlying 5=some (.int .u8):=by kernel_rfl
 have u9:Tryz.prog.underlying 9=some .string:=by kernel_rfl
 have hmk:∀ w,(Instr.makeSlice 150 (.int .i64 1) (.int .i64 1)).run Tryz.prog w=.ok (.slice (some ⟨w.heap.size,0,none⟩) 1 1) (w.alloc (.cells #[.pointer none,.pointer none,.pointer none] 28)):=fun w=>by kernel_rfl
 have hcv:=fun (w:World)=>run_bytes_of_string (P:=Tryz.prog) w 9 40 5 s u9 un40 u5
 go_enter Tryz.func47,Tryz.ntmps47
 go_wp2_with fail
 generalize grownCap _ _ _ _=cap
 generalize hnf:(bytesRow s cap).size=nf
 obtain⟨p,hpe⟩:∃ p,p=W.heap.size+1:=⟨_,rfl⟩
 obtain⟨w0,hw0⟩:∃ w0,w0=(((W.alloc (.cells #[.pointer none,.pointer none,.pointer none] 28)).alloc (.cells #[.slice none 0 0,.slice (some ⟨W.heap.size,0,none⟩) 1 1] 152)).alloc (.cells (bytesRow s cap) 5 (nf,nf+1))).drew:=⟨_,rfl⟩
 have HX0:Hid (w0.heap[W.heap.size]? = some (.cells #[.pointer none,.pointer none,.pointer none] 28 (0,0))):=by
  show _=_; rw[hw0];show ((W.alloc _).alloc _ |>.alloc _).heap[_]? = _
  rw[jE _ _ (by simp <;>omega),jE _ _ (by simp)];exact jD W _
 have HX1:Hid (w0.heap[p]? = some (.cells #[.slice none 0 0,.slice (some ⟨W.heap.size,0,none⟩) 1 1] 152 (0,0))):=by
  show _=_; rw[hw0];show ((W.alloc _).alloc _ |>.alloc _).heap[_]? = _
  rw[jE _ _ (by simp <;>omega),hpe];exact j7 (by simp)
 have HX2:Hid (w0.heap[p+1]? = some (.cells (bytesRow s cap) 5 (nf,nf+1))):=by
  show _=_; rw[hw0];show ((W.alloc _).alloc _ |>.alloc _).heap[_]? = _
  rw[hpe];exact j7 (by simp)
 have HBW0:Hid (Below W.heap.size W w0):=by
  show Below _ _ _; rw[hw0]
  exact ((((Below.refl _ _).alloc (jR _) _).alloc (by simp) _).alloc (by simp; omega) _).drew
 have HRD0:Hid (Rd W.heap.size w0 p (.slice none 0 0) (.slice (some ⟨W.heap.size,0,none⟩) 1 1) [⟨none,none,none⟩] [] [Zero]):={
  obj:=HX1.out
  out:=⟨rfl,.inl ⟨rfl,rfl⟩⟩
  row:=⟨rfl,.inr ⟨W.heap.size,1,_,rfl,Nat.zero_le _,HX0.out,jR _,by decide,rfl,rfl⟩⟩
  len:=rfl
  els:=fun i t x h1 h2=>by
   rcases i with _ | i
   ·simp at h1 h2; subst h1 h2; exact⟨none,none,none,rfl,j4 _,j4 _,j4 _⟩
   ·simp at h1
  hp:=by omega
  ho:=fun b e=>by cases e
  hg:=fun b e=>by cases e; exact jR _ }
 rw[← hpe,← hw0]
 obtain⟨cb,hcb⟩:∃ cb,cb=p+1:=⟨_,rfl⟩
 rw[← hcb] at HX2 ⊢
 have HPW:Hid (W.heap.size≤p):=by show _≤_; omega
 clear hcb hw0 hpe HX0 HX1 hmk hcv hnf
 go_loopg [13] s.size (fun g1 kv wr=>∃ (k:Nat) (o':List UInt8) (G':List E3) (ov gv:Value) (l:List Q3),kv=.int .i64 k∧k≤s.size∧s.size - k≤g1∧Hid ((s.data.toList.take k).foldl rdStep ([],[Zero])=(o',G'))∧Hid (AllA k G')∧Hid (Rd W.heap.size wr p ov gv l o' G')∧Hid (Below W.heap.size W wr)∧Hid (wr.heap[cb]? = some (.cells (bytesRow s cap) 5 (nf,nf+1))))
 case atStart=>exact⟨0,[],[Zero],_,_,_,rfl,by omega,by omega,rfl,AllA.zero,HRD0,HBW0,HX2⟩
 case round =>
  clear HRD0 HBW0 HX2
  obtain⟨k,o',G',ov,gv,l,rfl,hks,hg,HSt,HAA,HR,HBw,HCb⟩:=hrel
  by_cases hk:k<s.size
  ·have hkz:(k:Int)<(s.size:Int):=by omega
   have hk0:(0:Int)≤(k:Int):=Int.natCast_nonneg k
   have hkw:IntKind.i64.wrap ((k:Int)+1)=(k:Int)+1:=IntWalk.i64_in _ (by omega)
   obtain⟨c,hc⟩:∃ c,s.data.toList[k]? = some c:=⟨_,jG (by simpa using hk)⟩
   have bc:wr.cell? ⟨cb,k,none⟩=some (.int .u8 (c.toNat:Nat)):=by rw[jB HCb.out];exact bytesRow_get hc
   have HT1:Hid ((s.data.toList.take (k+1)).foldl rdStep ([],[Zero])=rdStep ((s.data.toList.take k).foldl rdStep ([],[Zero])) c):=by
    show _=_; rw[List.take_add_one,hc,Option.toList_some,List.foldl_append];rfl
   have hlen:G'.length=o'.length+1:=by
    have:=z8 (s.data.toList.take k) ([],[Zero]) rfl
    rw[HSt.out] at this; exact this
   have hol:o'.length≤k:=by
    have:=foldl_out (s.data.toList.take k) ([],[Zero])
    rw[HSt.out,List.length_take] at this
    simp at this; omega
   obtain⟨M,hM⟩:∃ M,M=G'.length:=⟨_,rfl⟩
   obtain⟨x,hx⟩:∃ x,G'[M - 1]? = some x:=⟨_,jG (by omega)⟩
   obtain⟨gb,gc,t,rfl,ht,hie,g0,g1,g2⟩:=HR.out.el hx
   rw[← hM] at HR
   have a0:=HR.out.c0
   have a1:=HR.out.c1
   have hM1:1≤M:=by omega
   have hM2:M≤100000:=by omega
   have i1:((M:Int) - 1).toNat=M - 1:=by omega
   have i2:(0:Int)≤(M:Int) - 1:=by omega
   have i3:(M:Int) - 1<(M:Int):=by omega
   have i4:(1:Int)≤(M:Int):=by omega
   have iw:IntKind.i64.wrap ((M:Int) - 1)=(M:Int) - 1:=IntWalk.i64_in _ (by omega)
   have HX:=jH hx
   have HM:=jH hM
   have HEl:=jH hie
   have HG0:=jH g0
   have HG1:=jH g1
   have HG2:=jH g2
   have HLl:Hid (M - 1<l.length):=(jL ht).1
   have HGB:Hid (W.heap.size≤gb):=HR.out.hg gb rfl
   have lg:=jg g0
   have HNE:Hid (cb≠gb):=by
    obtain⟨cur,hcur⟩:=jO HR.out.row (b:=gb) rfl
    exact jI HCb.out hcur (by decide)
   have HLN:Hid (G'.length=o'.length+1):=hlen
   clear hx hM hie ht hlen
   by_cases h97:c=97
   ·have hb1:(c.toNat:Int)=97:=by rw[h97];rfl
    have HC:Hid (c=97):=h97
    clear h97 hc
    have HIo:=jH (fun W=>Of_calls 1 (by decide) (by decide) W)
    have HTO:Hid (TimesOK x ⟨1,0,0⟩):=by
     show TimesOK _ _
     obtain⟨n,rfl,hn⟩:=HAA.out (M - 1) x HX.out
     exact powA_ok (by omega) 1 (.inl rfl)
    have HK:Hid (∀ w':World,Below wr.heap.size wr w'→w'.cell? ⟨p,1,none⟩=some (.slice (some ⟨gb,0,none⟩) M gc)∧w'.cell? ⟨gb,(M - 1)*3,none⟩=some (.pointer t.1)∧w'.cell? ⟨gb,(M - 1)*3+1,none⟩=some (.pointer t.2.1)∧w'.cell? ⟨gb,(M - 1)*3+2,none⟩=some (.pointer t.2.2)):=fun w' hb=>⟨(HR.out.below hb).c1,jQ hb HG0.out,jQ hb HG1.out,jQ hb HG2.out⟩
    go_wp2_with fail
    refine qw (S:=fun w'=>w'.cell? ⟨p,1,none⟩=some (.slice (some ⟨gb,0,none⟩) M gc)∧w'.cell? ⟨gb,(M - 1)*3,none⟩=some (.pointer t.1)∧w'.cell? ⟨gb,(M - 1)*3+1,none⟩=some (.pointer t.2.1)∧w'.cell? ⟨gb,(M - 1)*3+2,none⟩=some (.pointer t.2.2)) (late:=[16]) (by kernel_rfl) ?_ (fun hHeld=>?_)
    ·
     exact HK.out wr.drew ((Below.refl _ _).drew)
    refine jC (i:=0) (v:=?_) rfl (by kernel_rfl) (by kernel_rfl) (by kernel_rfl) (by kernel_rfl) (by kernel_rfl) (fun _ _ _ h=>h) (Or.inl ⟨by rfl,?_⟩) (by assumption) ?_
    rotate_left
    ·(intro w hSw; (try dsimp only at hSw);go_simp)
     all_goals with_reducible rfl
    try go_frame
    refine jC (i:=1) (v:=?_) rfl (by kernel_rfl) (by kernel_rfl) (by kernel_rfl) (by kernel_rfl) (by kernel_rfl) (fun _ _ _ h=>h) (Or.inl ⟨by rfl,?_⟩) (by assumption) ?_
    rotate_left
    ·(intro w hSw; (try dsimp only at hSw);go_simp)
     all_goals with_reducible rfl
    try go_frame
    refine jC (i:=2) (v:=?_) rfl (by kernel_rfl) (by kernel_rfl) (by kernel_rfl) (by kernel_rfl) (by kernel_rfl) (fun _ _ _ h=>h) (Or.inl ⟨by rfl,?_⟩) (by assumption) ?_
    rotate_left
    ·(intro w hSw; (try dsimp only at hSw);go_simp)
     all_goals with_reducible rfl
    try go_frame
    refine jC (i:=3) (v:=?_) rfl (by kernel_rfl) (by kernel_rfl) (by kernel_rfl) (by kernel_rfl) (by kernel_rfl) (fun _ _ _ h=>h) (Or.inl ⟨by rfl,?_⟩) (by assumption) ?_
    rotate_left
    ·(intro w hSw; (try dsimp only at hSw);go_simp)
     all_goals with_reducible rfl
    try go_frame
    refine jC (i:=4) (v:=?_) rfl (by kernel_rfl) (by kernel_rfl) (by kernel_rfl) (by kernel_rfl) (by kernel_rfl) (fun _ _ _ h=>h) (Or.inl ⟨by rfl,?_⟩) (by assumption) ?_
    rotate_left
    ·(intro w hSw; (try dsimp only at hSw);go_simp)
     all_goals with_reducible rfl
    try go_frame
    refine jC (i:=5) (v:=?_) rfl (by kernel_rfl) (by kernel_rfl) (by kernel_rfl) (by kernel_rfl) (by kernel_rfl) (fun _ _ _ h=>h) (Or.inl ⟨by rfl,?_⟩) (by assumption) ?_
    rotate_left
    ·(intro w hSw; (try dsimp only at hSw);go_simp)
     all_goals with_reducible rfl
    try go_frame
    refine jC (i:=6) (v:=?_) rfl (by kernel_rfl) (by kernel_rfl) (by kernel_rfl) (by kernel_rfl) (by kernel_rfl) (fun _ _ _ h=>h) (Or.inl ⟨by rfl,?_⟩) (by assumption) ?_
    rotate_left
    ·(intro w hSw; (try dsimp only at hSw);go_simp)
     all_goals with_reducible rfl
    try go_frame
    refine jC (i:=7) (v:=?_) rfl (by kernel_rfl) (by kernel_rfl) (by kernel_rfl) (by kernel_rfl) (by kernel_rfl) (fun _ _ _ h=>h) (Or.inl ⟨by rfl,?_⟩) (by assumption) ?_
    rotate_left
    ·(intro w hSw; (try dsimp only at hSw);go_simp)
     all_goals with_reducible rfl
    try go_frame
    refine jC (i:=8) (v:=?_) rfl (by kernel_rfl) (by kernel_rfl) (by kernel_rfl) (by kernel_rfl) (by kernel_rfl) (fun _ _ _ h=>h) (Or.inl ⟨by rfl,?_⟩) (by assumption) ?_
    rotate_left
    ·(intro w hSw; (try dsimp only at hSw);go_simp)
     all_goals with_reducible rfl
    try go_frame
    refine jC (i:=9) (v:=?_) rfl (by kernel_rfl) (by kernel_rfl) (by kernel_rfl) (by kernel_rfl) (by kernel_rfl) (fun _ _ _ h=>h) (Or.inl ⟨by rfl,?_⟩) (by assumption) ?_
    rotate_left
    ·(intro w hSw; (try dsimp only at hSw);go_simp)
     all_goals with_reducible rfl
    try go_frame
    refine jC (i:=10) (v:=?_) rfl (by kernel_rfl) (by kernel_rfl) (by kernel_rfl) (by kernel_rfl) (by kernel_rfl) (fun _ _ _ h=>h) (Or.inl ⟨by rfl,?_⟩) (by assumption) ?_
    rotate_left
    ·(intro w hSw; (try dsimp only at hSw);go_simp)
     all_goals with_reducible rfl
    try go_frame
    refine jC (i:=11) (v:=?_) rfl (by kernel_rfl) (by kernel_rfl) (by kernel_rfl) (by kernel_rfl) (by kernel_rfl) (fun _ _ _ h=>h) (Or.inl ⟨by rfl,?_⟩) (by assumption) ?_
    rotate_left
    ·(intro w hSw; (try dsimp only at hSw);go_simp)
     all_goals with_reducible rfl
    try go_frame
    refine qJ (i:=12) rfl (by kernel_rfl) (fun K hK=>?_)
    go_simp
    go_wp2_with (
     go_at_call 20
     refine (HIo.out _).mono ?_
     rintro e w5 ⟨q5,rfl,hi5,hb5⟩
     have HB5:=jH (Below.trans' (W:=wr) ((Below.refl _ _).drew) hb5.out)
     have hT:=zp (W:=w5) (y:=⟨1,0,0⟩) (V2:=.agg #[.pointer q5,.pointer none,.pointer none]) (HEl.out.below HB5.out) ⟨q5,none,none,rfl,hi5.out,j4 _,j4 _⟩
     clear hb5 hi5
     )
    refine hK.out _ _ ?_ (fun hHeld1=>?_)
    ·
     exact HK.out w5 HB5.out
    clear hK K hHeld
    try go_frame
    refine jC (i:=13) (v:=?_) rfl (by kernel_rfl) (by kernel_rfl) (by kernel_rfl) (by kernel_rfl) (by kernel_rfl) (fun _ _ _ h=>h) (Or.inl ⟨by rfl,?_⟩) (by assumption) ?_
    rotate_left
    ·(intro w hSw; (try dsimp only at hSw);go_simp)
     all_goals with_reducible rfl
    try go_frame
    refine qJ (i:=14) rfl (by kernel_rfl) (fun K hK=>?_)
    go_simp
    go_wp2_with (
     go_at_call 56
     refine hT.mono ?_
     rintro e w8 (⟨hok8,ru,rv,rm,rfl,hie8,hb8⟩ | ⟨hno,rfl,hb8⟩)
     rotate_left
     ·exact absurd HTO.out hno
     have HB8:=jH (Below.trans' HB5.out hb8.out)
     have HIE8:=jH hie8.out
     have q0:=(HR.out.below HB8.out).freeG ((M - 1)*3)
     have q1:=(HR.out.below HB8.out).freeG ((M - 1)*3+1)
     have q2:=(HR.out.below HB8.out).freeG ((M - 1)*3+2)
     have n0:=jQ HB8.out HG0.out
     have n1:=jQ HB8.out HG1.out
     have n2:=jQ HB8.out HG2.out
     clear hb8 hie8 hok8 hT
     )
    refine hK.out _ _ ?_ (fun hHeld2=>?_)
    ·
     exact HK.out w8 HB8.out
    clear hK K hHeld1
    try go_frame
    refine jC (i:=15) (v:=?_) rfl (by kernel_rfl) (by kernel_rfl) (by kernel_rfl) (by kernel_rfl) (by kernel_rfl) (fun _ _ _ h=>h) (Or.inl ⟨by rfl,?_⟩) (by assumption) ?_
    rotate_left
    ·(intro w hSw; (try dsimp only at hSw);go_simp)
     all_goals with_reducible rfl
    try go_frame
    refine zH (i:=16) rfl (by kernel_rfl) rfl (fun K hK=>?_)
    go_simp
    refine hK.out _ _ ?_
    clear hK K
    try go_frame
    refine zZ (by kernel_rfl) ?_ _
    all_goals
     have HRS0:=jH ((HR.out.below HB8.out).put (i:=M - 1) (t:=⟨ru,rv,rm⟩) HLl.out HIE8.out)
     have HBS0:Hid (Below W.heap.size W (((w8.setCell ⟨gb,(M - 1)*3,none⟩ (.pointer ru)).setCell ⟨gb,(M - 1)*3+1,none⟩ (.pointer rv)).setCell ⟨gb,(M - 1)*3+2,none⟩ (.pointer rm))) :=
      (((Below.trans' HBw.out HB8.out).setCell HGB.out _).setCell HGB.out _).setCell HGB.out _
     have HCB0:Hid ((((w8.setCell ⟨gb,(M - 1)*3,none⟩ (.pointer ru)).setCell ⟨gb,(M - 1)*3+1,none⟩ (.pointer rv)).setCell ⟨gb,(M - 1)*3+2,none⟩ (.pointer rm)).heap[cb]? = some (.cells (bytesRow s cap) 5 (nf,nf+1))):=by
      have hne:=HNE.out
      exact ((jS _ _ _ _ hne).trans ((jS _ _ _ _ hne).trans (jS _ _ _ _ hne))).trans (Below.here HB8.out HCb.out)
     obtain⟨wS,hwS⟩:∃ wS,wS=((w8.setCell ⟨gb,(M - 1)*3,none⟩ (.pointer ru)).setCell ⟨gb,(M - 1)*3+1,none⟩ (.pointer rv)).setCell ⟨gb,(M - 1)*3+2,none⟩ (.pointer rm):=⟨_,rfl⟩
     have HRS:Hid (Rd W.heap.size wS p ov (.slice (some ⟨gb,0,none⟩) M gc) (l.set (M - 1) ⟨ru,rv,rm⟩) o' (G'.set (M - 1) (timesE x ⟨1,0,0⟩))):=by
      show Rd _ _ _ _ _ _ _ _; rw[hwS];exact HRS0.out
     have HBS:Hid (Below W.heap.size W wS):=by show Below _ _ _; rw[hwS];exact HBS0.out
     have HCB:Hid (wS.heap[cb]? = some (.cells (bytesRow s cap) 5 (nf,nf+1))):=by show _=_; rw[hwS];exact HCB0.out
     rw[← hwS]
     clear hwS HRS0 HBS0 HCB0 q0 q1 q2 n0 n1 n2 g0 g1 g2 HK a0 a1 bc
     go_wp2_with fail
     go_roundg (s.size - (k+1))
     case measure=>omega
     case rel=>exact⟨k+1,o',G'.set (M - 1) (timesE x ⟨1,0,0⟩),ov,_,_,by go_num,by omega,by omega,by show _=_; rw[HT1.out,HSt.out,HC.out];unfold rdStep; rw[if_pos rfl];dsimp only; rw[← HM.out,jo HX.out],HAA.out.set (.inl rfl) HX.out,HRS,HBS,HCB⟩
   ·have hb1:decide ((c.toNat:Int)=97)=false:=by
     simp only[decide_eq_false_iff_not];intro h; exact h97 (UInt8.toNat_inj.1 (by show _=97; omega))
    have hb2:((c.toNat:Int)==97)=false:=by simpa using hb1
    by_cases h65:c=65
    ·have hb3:(c.toNat:Int)=65:=by rw[h65];rfl
     have HC:Hid (c=65):=h65
     clear h97 hc h65 hb1 hb2
     have HIo:=jH (fun W=>Of_calls (-1) (by decide) (by decide) W)
     have HTO:Hid (TimesOK x ⟨(-1),0,0⟩):=by
      show TimesOK _ _
      obtain⟨n,rfl,hn⟩:=HAA.out (M - 1) x HX.out
      exact powA_ok (by omega) (-1) (.inr rfl)
     have HK:Hid (∀ w':World,Below wr.heap.size wr w'→w'.cell? ⟨p,1,none⟩=some (.slice (some ⟨gb,0,none⟩) M gc)∧w'.cell? ⟨gb,(M - 1)*3,none⟩=some (.pointer t.1)∧w'.cell? ⟨gb,(M - 1)*3+1,none⟩=some (.pointer t.2.1)∧w'.cell? ⟨gb,(M - 1)*3+2,none⟩=some (.pointer t.2.2)):=fun w' hb=>⟨(HR.out.below hb).c1,jQ hb HG0.out,jQ hb HG1.out,jQ hb HG2.out⟩
     go_wp2_with fail
     refine qw (S:=fun w'=>w'.cell? ⟨p,1,none⟩=some (.slice (some ⟨gb,0,none⟩) M gc)∧w'.cell? ⟨gb,(M - 1)*3,none⟩=some (.pointer t.1)∧w'.cell? ⟨gb,(M - 1)*3+1,none⟩=some (.pointer t.2.1)∧w'.cell? ⟨gb,(M - 1)*3+2,none⟩=some (.pointer t.2.2)) (late:=[16]) (by kernel_rfl) ?_ (fun hHeld=>?_)
     ·
      exact HK.out wr.drew ((Below.refl _ _).drew)
     refine jC (i:=0) (v:=?_) rfl (by kernel_rfl) (by kernel_rfl) (by kernel_rfl) (by kernel_rfl) (by kernel_rfl) (fun _ _ _ h=>h) (Or.inl ⟨by rfl,?_⟩) (by assumption) ?_
     rotate_left
     ·(intro w hSw; (try dsimp only at hSw);go_simp)
      all_goals with_reducible rfl
     try go_frame
     refine jC (i:=1) (v:=?_) rfl (by kernel_rfl) (by kernel_rfl) (by kernel_rfl) (by kernel_rfl) (by kernel_rfl) (fun _ _ _ h=>h) (Or.inl ⟨by rfl,?_⟩) (by assumption) ?_
     rotate_left
     ·(intro w hSw; (try dsimp only at hSw);go_simp)
      all_goals with_reducible rfl
     try go_frame
     refine jC (i:=2) (v:=?_) rfl (by kernel_rfl) (by kernel_rfl) (by kernel_rfl) (by kernel_rfl) (by kernel_rfl) (fun _ _ _ h=>h) (Or.inl ⟨by rfl,?_⟩) (by assumption) ?_
     rotate_left
     ·(intro w hSw; (try dsimp only at hSw);go_simp)
      all_goals with_reducible rfl
     try go_frame
     refine jC (i:=3) (v:=?_) rfl (by kernel_rfl) (by kernel_rfl) (by kernel_rfl) (by kernel_rfl) (by kernel_rfl) (fun _ _ _ h=>h) (Or.inl ⟨by rfl,?_⟩) (by assumption) ?_
     rotate_left
     ·(intro w hSw; (try dsimp only at hSw);go_simp)
      all_goals with_reducible rfl
     try go_frame
     refine jC (i:=4) (v:=?_) rfl (by kernel_rfl) (by kernel_rfl) (by kernel_rfl) (by kernel_rfl) (by kernel_rfl) (fun _ _ _ h=>h) (Or.inl ⟨by rfl,?_⟩) (by assumption) ?_
     rotate_left
     ·(intro w hSw; (try dsimp only at hSw);go_simp)
      all_goals with_reducible rfl
     try go_frame
     refine jC (i:=5) (v:=?_) rfl (by kernel_rfl) (by kernel_rfl) (by kernel_rfl) (by kernel_rfl) (by kernel_rfl) (fun _ _ _ h=>h) (Or.inl ⟨by rfl,?_⟩) (by assumption) ?_
     rotate_left
     ·(intro w hSw; (try dsimp only at hSw);go_simp)
      all_goals with_reducible rfl
     try go_frame
     refine jC (i:=6) (v:=?_) rfl (by kernel_rfl) (by kernel_rfl) (by kernel_rfl) (by kernel_rfl) (by kernel_rfl) (fun _ _ _ h=>h) (Or.inl ⟨by rfl,?_⟩) (by assumption) ?_
     rotate_left
     ·(intro w hSw; (try dsimp only at hSw);go_simp)
      all_goals with_reducible rfl
     try go_frame
     refine jC (i:=7) (v:=?_) rfl (by kernel_rfl) (by kernel_rfl) (by kernel_rfl) (by kernel_rfl) (by kernel_rfl) (fun _ _ _ h=>h) (Or.inl ⟨by rfl,?_⟩) (by assumption) ?_
     rotate_left
     ·(intro w hSw; (try dsimp only at hSw);go_simp)
      all_goals with_reducible rfl
     try go_frame
     refine jC (i:=8) (v:=?_) rfl (by kernel_rfl) (by kernel_rfl) (by kernel_rfl) (by kernel_rfl) (by kernel_rfl) (fun _ _ _ h=>h) (Or.inl ⟨by rfl,?_⟩) (by assumption) ?_
     rotate_left
     ·(intro w hSw; (try dsimp only at hSw);go_simp)
      all_goals with_reducible rfl
     try go_frame
     refine jC (i:=9) (v:=?_) rfl (by kernel_rfl) (by kernel_rfl) (by kernel_rfl) (by kernel_rfl) (by kernel_rfl) (fun _ _ _ h=>h) (Or.inl ⟨by rfl,?_⟩) (by assumption) ?_
     rotate_left
     ·(intro w hSw; (try dsimp only at hSw);go_simp)
      all_goals with_reducible rfl
     try go_frame
     refine jC (i:=10) (v:=?_) rfl (by kernel_rfl) (by kernel_rfl) (by kernel_rfl) (by kernel_rfl) (by kernel_rfl) (fun _ _ _ h=>h) (Or.inl ⟨by rfl,?_⟩) (by assumption) ?_
     rotate_left
     ·(intro w hSw; (try dsimp only at hSw);go_simp)
      all_goals with_reducible rfl
     try go_frame
     refine jC (i:=11) (v:=?_) rfl (by kernel_rfl) (by kernel_rfl) (by kernel_rfl) (by kernel_rfl) (by kernel_rfl) (fun _ _ _ h=>h) (Or.inl ⟨by rfl,?_⟩) (by assumption) ?_
     rotate_left
     ·(intro w hSw; (try dsimp only at hSw);go_simp)
      all_goals with_reducible rfl
     try go_frame
     refine qJ (i:=12) rfl (by kernel_rfl) (fun K hK=>?_)
     go_simp
     go_wp2_with (
      go_at_call 20
      refine (HIo.out _).mono ?_
      rintro e w5 ⟨q5,rfl,hi5,hb5⟩
      have HB5:=jH (Below.trans' (W:=wr) ((Below.refl _ _).drew) hb5.out)
      have hT:=zp (W:=w5) (y:=⟨(-1),0,0⟩) (V2:=.agg #[.pointer q5,.pointer none,.pointer none]) (HEl.out.below HB5.out) ⟨q5,none,none,rfl,hi5.out,j4 _,j4 _⟩
      clear hb5 hi5
      )
     refine hK.out _ _ ?_ (fun hHeld1=>?_)
     ·
      exact HK.out w5 HB5.out
     clear hK K hHeld
     try go_frame
     refine jC (i:=13) (v:=?_) rfl (by kernel_rfl) (by kernel_rfl) (by kernel_rfl) (by kernel_rfl) (by kernel_rfl) (fun _ _ _ h=>h) (Or.inl ⟨by rfl,?_⟩) (by assumption) ?_
     rotate_left
     ·(intro w hSw; (try dsimp only at hSw);go_simp)
      all_goals with_reducible rfl
     try go_frame
     refine qJ (i:=14) rfl (by kernel_rfl) (fun K hK=>?_)
     go_simp
     go_wp2_with (
      go_at_call 56
      refine hT.mono ?_
      rintro e w8 (⟨hok8,ru,rv,rm,rfl,hie8,hb8⟩ | ⟨hno,rfl,hb8⟩)
      rotate_left
      ·exact absurd HTO.out hno
      have HB8:=jH (Below.trans' HB5.out hb8.out)
      have HIE8:=jH hie8.out
      have q0:=(HR.out.below HB8.out).freeG ((M - 1)*3)
      have q1:=(HR.out.below HB8.out).freeG ((M - 1)*3+1)
      have q2:=(HR.out.below HB8.out).freeG ((M - 1)*3+2)
      have n0:=jQ HB8.out HG0.out
      have n1:=jQ HB8.out HG1.out
      have n2:=jQ HB8.out HG2.out
      clear hb8 hie8 hok8 hT
      )
     refine hK.out _ _ ?_ (fun hHeld2=>?_)
     ·
      exact HK.out w8 HB8.out
     clear hK K hHeld1
     try go_frame
     refine jC (i:=15) (v:=?_) rfl (by kernel_rfl) (by kernel_rfl) (by kernel_rfl) (by kernel_rfl) (by kernel_rfl) (fun _ _ _ h=>h) (Or.inl ⟨by rfl,?_⟩) (by assumption) ?_
     rotate_left
     ·(intro w hSw; (try dsimp only at hSw);go_simp)
      all_goals with_reducible rfl
     try go_frame
     refine zH (i:=16) rfl (by kernel_rfl) rfl (fun K hK=>?_)
     go_simp
     refine hK.out _ _ ?_
     clear hK K
     try go_frame
     refine zZ (by kernel_rfl) ?_ _
     all_goals
      have HRS0:=jH ((HR.out.below HB8.out).put (i:=M - 1) (t:=⟨ru,rv,rm⟩) HLl.out HIE8.out)
      have HBS0:Hid (Below W.heap.size W (((w8.setCell ⟨gb,(M - 1)*3,none⟩ (.pointer ru)).setCell ⟨gb,(M - 1)*3+1,none⟩ (.pointer rv)).setCell ⟨gb,(M - 1)*3+2,none⟩ (.pointer rm))) :=
       (((Below.trans' HBw.out HB8.out).setCell HGB.out _).setCell HGB.out _).setCell HGB.out _
      have HCB0:Hid ((((w8.setCell ⟨gb,(M - 1)*3,none⟩ (.pointer ru)).setCell ⟨gb,(M - 1)*3+1,none⟩ (.pointer rv)).setCell ⟨gb,(M - 1)*3+2,none⟩ (.pointer rm)).heap[cb]? = some (.cells (bytesRow s cap) 5 (nf,nf+1))):=by
       have hne:=HNE.out
       exact ((jS _ _ _ _ hne).trans ((jS _ _ _ _ hne).trans (jS _ _ _ _ hne))).trans (Below.here HB8.out HCb.out)
      obtain⟨wS,hwS⟩:∃ wS,wS=((w8.setCell ⟨gb,(M - 1)*3,none⟩ (.pointer ru)).setCell ⟨gb,(M - 1)*3+1,none⟩ (.pointer rv)).setCell ⟨gb,(M - 1)*3+2,none⟩ (.pointer rm):=⟨_,rfl⟩
      have HRS:Hid (Rd W.heap.size wS p ov (.slice (some ⟨gb,0,none⟩) M gc) (l.set (M - 1) ⟨ru,rv,rm⟩) o' (G'.set (M - 1) (timesE x ⟨(-1),0,0⟩))):=by
       show Rd _ _ _ _ _ _ _ _; rw[hwS];exact HRS0.out
      have HBS:Hid (Below W.heap.size W wS):=by show Below _ _ _; rw[hwS];exact HBS0.out
      have HCB:Hid (wS.heap[cb]? = some (.cells (bytesRow s cap) 5 (nf,nf+1))):=by show _=_; rw[hwS];exact HCB0.out
      rw[← hwS]
      clear hwS HRS0 HBS0 HCB0 q0 q1 q2 n0 n1 n2 g0 g1 g2 HK a0 a1 bc
      go_wp2_with fail
      go_roundg (s.size - (k+1))
      case measure=>omega
      case rel=>exact⟨k+1,o',G'.set (M - 1) (timesE x ⟨(-1),0,0⟩),ov,_,_,by go_num,by omega,by omega,by show _=_; rw[HT1.out,HSt.out,HC.out];unfold rdStep; rw[if_neg (by decide),if_pos rfl];dsimp only; rw[← HM.out,jo HX.out],HAA.out.set (.inr rfl) HX.out,HRS,HBS,HCB⟩
    ·have hb3:decide ((c.toNat:Int)=65)=false:=by
      simp only[decide_eq_false_iff_not];intro h; exact h65 (UInt8.toNat_inj.1 (by show _=65; omega))
     have hb4:((c.toNat:Int)==65)=false:=by simpa using hb3
     have HC:Hid (rdStep (o',G') c=(o'++[c],G'++[Zero])):=by show _=_; unfold rdStep; rw[if_neg h97,if_neg h65]
     have HBs:Hid (W.heap.size≤wr.heap.size):=HBw.out.size
     have hb9:o'.length+1≤1099511627776:=by omega
     obtain⟨oa,oc,hov⟩:=ja HR.out.out
     subst hov
     have hcl:cb<wr.heap.size:=jg bc
     clear h97 h65 hc g0 g1 g2
     have hlb:l.length+1≤1099511627776:=by have:=HR.out.len; have:=HLN.out; omega
     go_wp2_with (at_builtin
                  first
                   | (refine app_B rfl _ _ rfl (.slice oa o'.length oc) o' rfl (World.ownsRow.alloc HR.out.out _) _ 1 [c] rfl rfl _ rfl (jD _ _) hb9 ?_; intro v1 w7 K7 G7 A7
                      obtain⟨g1,p1,hv1⟩:=BRow.form K7 (by simp)
                      obtain⟨N1,hN1⟩:∃ N1,N1=(o'++[c]).length:=⟨_,rfl⟩
                      rw[← hN1] at hv1
                      subst hv1
                      clear hN1
                      have HG7:=jH (Gb.of G7 A7)
                      have HO7:Hid (w7.heap[p]? = some (.cells #[.slice oa o'.length oc,.slice (some ⟨gb,0,none⟩) M gc] 152 (0,0))):=(HG7.out.keep HR.out.out HR.out.obj (.inl (by decide))).trans HR.out.obj
                      have c7:w7.cell? ⟨p,0,none⟩=some (.slice oa o'.length oc):=by rw[jB HO7.out];rfl
                      have c71:w7.cell? ⟨p,1,none⟩=some (.slice (some ⟨gb,0,none⟩) M gc):=by rw[jB HO7.out];rfl
                      have f7:=jF HO7.out 0
                      have HE28:Hid (((w7.setCell ⟨p,0,none⟩ (.slice (some ⟨g1,0,none⟩) N1 p1)).alloc (.cells #[.pointer none,.pointer none,.pointer none] 28)).heap[w7.heap.size]? = some (.cells #[.pointer none,.pointer none,.pointer none] 28 (0,0))):=j7 (by simp)
                      have HR8:=jH (HR.out.pushO HBs.out HG7.out K7)
                      have HCb8:Hid ((w7.setCell ⟨p,0,none⟩ (.slice (some ⟨g1,0,none⟩) N1 p1)).heap[cb]? = some (.cells (bytesRow s cap) 5 (nf,nf+1))):=by
                       have hne:cb≠p:=jI HCb.out HR.out.obj (by decide)
                       exact (jS _ _ _ _ hne).trans ((HG7.out.keep HR.out.out HCb.out (.inr (by simp))).trans HCb.out)
                      have HB8:Hid (Below W.heap.size W (w7.setCell ⟨p,0,none⟩ (.slice (some ⟨g1,0,none⟩) N1 p1))):=(jy HBw.out (jR _) (fun b hb=>HR.out.ho b (by simpa using hb)) HG7.out.fr).setCell HPW.out _
                      clear K7 G7 A7)
                   | (go_loud (refine app_E1 rfl _ _ rfl (.slice (some ⟨gb,0,none⟩) M gc) l.length (qcl l) rfl (World.ownsRow.alloc HR8.out.row _) _ rfl HE28.out hlb ?_);intro v2 w9 K9 G9 N9 A9
                      obtain⟨g2,p2,hv2,-,-⟩:=zr K9 (by omega)
                      obtain⟨N2,hN2⟩:∃ N2,N2=l.length+1:=⟨_,rfl⟩
                      rw[← hN2] at hv2
                      subst hv2
                      clear hN2
                      have HG9:=jH (Gb.of G9 A9)
                      have HO9:Hid (w9.heap[p]? = some (.cells #[.slice (some ⟨g1,0,none⟩) N1 p1,.slice (some ⟨gb,0,none⟩) M gc] 152 (0,0))):=(HG9.out.keep HR8.out.row HR8.out.obj (.inl (by decide))).trans HR8.out.obj
                      have c9:w9.cell? ⟨p,1,none⟩=some (.slice (some ⟨gb,0,none⟩) M gc):=by rw[jB HO9.out];rfl
                      have f9:=jF HO9.out 1
                      have HR10:=jH (HR8.out.pushG HB8.out.size HG9.out K9)
                      have HCb10:Hid ((w9.setCell ⟨p,1,none⟩ (.slice (some ⟨g2,0,none⟩) N2 p2)).heap[cb]? = some (.cells (bytesRow s cap) 5 (nf,nf+1))):=by
                       have hne:cb≠p:=jI HCb.out HR.out.obj (by decide)
                       exact (jS _ _ _ _ hne).trans ((HG9.out.keep HR8.out.row HCb8.out (.inl (by decide))).trans HCb8.out)
                      have HB10:Hid (Below W.heap.size W (w9.setCell ⟨p,1,none⟩ (.slice (some ⟨g2,0,none⟩) N2 p2))):=(jy HB8.out (jR _) (fun b hb=>HR8.out.hg b (by simpa using hb)) HG9.out.fr).setCell HPW.out _
                      clear K9 G9 N9 A9))
     go_roundg (s.size - (k+1))
     case measure=>omega
     case rel=>exact⟨k+1,o'++[c],G'++[Zero],_,_,_,by go_num,by omega,by omega,by show _=_; rw[HT1.out,HSt.out,HC.out],HAA.out.push,HR10,HB10,HCb10⟩
  ·have hkz:¬ ((k:Int)<(s.size:Int)):=by omega
   have HFin:Hid (readE s.data.toList=(o',G')):=by
    show _=_; unfold readE
    rw[← HSt.out,List.take_of_length_le (by simp; omega)]
   go_wp2_with fail
   go_ret
   refine⟨p,ov,gv,l,rfl,?_,HBw⟩
   rw[HFin.out];exact HR
def isLt (l:List UInt8): Bool:=l.all fun c=>c==97||c==65||c==98||c==66
theorem zQ {l:List UInt8}: isLt l=true↔Lt l:=by
 unfold isLt Lt
 rw[List.all_eq_true]
 constructor
 ·intro h c hc
  have:=h c hc
  simpa [or_assoc] using this
 ·intro h c hc
  have:=h c hc
  simpa [or_assoc] using this
theorem jf {l:List UInt8}: isWordL l=true↔(isLt l=true∧l.length≤400):=by
 unfold isWordL isLt
 simp only[Bool.and_eq_true,decide_eq_true_eq,List.all_eq_true]
 constructor
 ·rintro⟨h1,h2⟩
  refine⟨fun c hc=>?_,h1⟩
  have:=h2 c hc
  simpa [letters,or_assoc] using this
 ·rintro⟨h1,h2⟩
  refine⟨h2,fun c hc=>?_⟩
  have:=h1 c hc
  simpa [letters,or_assoc] using this
theorem yU {W:World}{s:ByteArray}(hs:s.size≤9223372036854775807){n:Nat}(_hn:n≤1000): Calls Tryz.prog 24 #[.string s,.int .i64 n] W fun e W'=>e=.returned (.bool (isLt s.data.toList&&decide (s.size≤n)))∧Hid (Below W.heap.size W W'):=by
 go_enter Tryz.func24,Tryz.ntmps24
 go_wp2_with fail
 go_loopg [5] s.size (fun g1 kv wr=>∃ k:Nat,kv=.int .i64 k∧k≤s.size∧s.size - k≤g1∧Hid (isLt (s.data.toList.take k)=true)∧Hid (Below W.heap.size W wr))
 case atStart=>exact⟨0,rfl,by omega,by omega,rfl,Below.refl _ _⟩
 case round =>
  obtain⟨k,rfl,hk,hg1,HT,HB⟩:=hrel
  by_cases hlt:k<s.size
  ·have hkz:(k:Int)<(s.size:Int):=by omega
   have hk0:(0:Int)≤(k:Int):=Int.natCast_nonneg k
   have hkw:IntKind.i64.wrap ((k:Int)+1)=(k:Int)+1:=IntWalk.i64_in _ (by omega)
   obtain⟨c,hc⟩:∃ c,s.data.toList[k]? = some c:=⟨_,jG (by simpa using hlt)⟩
   have hsk:s[k]=c:=by
    have h:=(jL hc).2
    rw[← h];rfl
   have HTk:Hid (s.data.toList.take (k+1)=s.data.toList.take k++[c]):=by show _=_; rw[List.take_add_one,hc];rfl
   have HC:=jH hc
   clear hc
   by_cases hl:c=97∨c=65∨c=98∨c=66
   ·have HN:Hid (isLt (s.data.toList.take (k+1))=true):=by
     show _=_
     have h:=HT.out
     rw[HTk.out]
     unfold isLt at h ⊢
     rw[List.all_append,h]
     simpa [or_assoc] using hl
    rcases hl with rfl | rfl | rfl | rfl
    all_goals
     go_wp2_with fail
     go_roundg (s.size - (k+1))
     case measure=>omega
     case rel=>exact⟨k+1,by go_num,by omega,by omega,HN,HB⟩
   ·have HF:Hid (isLt s.data.toList=false):=by
     show _=_
     cases h:isLt s.data.toList with
     | false=>rfl
     | true=>exact absurd (zQ.1 h c (jM HC.out)) hl
    have m1:((c.toNat:Int) != 97)=true:=by simp only[bne_iff_ne,ne_eq];intro h; exact hl (.inl (UInt8.toNat_inj.1 (by show _=97; omega)))
    have m2:((c.toNat:Int) != 65)=true:=by simp only[bne_iff_ne,ne_eq];intro h; exact hl (.inr (.inl (UInt8.toNat_inj.1 (by show _=65; omega))))
    have m3:((c.toNat:Int) != 98)=true:=by simp only[bne_iff_ne,ne_eq];intro h; exact hl (.inr (.inr (.inl (UInt8.toNat_inj.1 (by show _=98; omega)))))
    have m4:((c.toNat:Int) != 66)=true:=by simp only[bne_iff_ne,ne_eq];intro h; exact hl (.inr (.inr (.inr (UInt8.toNat_inj.1 (by show _=66; omega)))))
    clear hl
    go_wp2_with fail
    go_ret
    exact⟨by rw[HF.out];rfl,HB⟩
  ·have hkz:¬ ((k:Int)<(s.size:Int)):=by omega
   have HL:Hid (isLt s.data.toList=true):=by
    have h:=HT.out
    rw[List.take_of_length_le (by simp; omega)] at h
    exact h
   go_wp2_with fail
   go_ret
   refine⟨?_,HB⟩
   rw[HL.out]
   simp
section
noncomputable def traceE (l:List UInt8): Option RedR:=redE (readE l).1 (readE l).2 0
theorem redE_len {o':List UInt8}{G':List E3}: ∀ (n:Nat) (o:List UInt8) (G:List E3) (i:Nat) (st:List (Nat×Int)),2*o.length - i≤n→i≤o.length→G.length=o.length+1→redE o G i=some (st,o',G')→G'.length=o'.length+1∧o'.length≤o.length:=by
 intro n
 induction n with
 | zero =>
   intro o G i st hn hi hg h
   have hlt:¬ i+1<o.length:=by omega
   rw[zU hlt] at h
   cases h
   exact⟨hg,jR _⟩
 | succ n ih =>
   intro o G i st hn hi hg h
   by_cases hlt:i+1<o.length
   ·by_cases hp:pinAt o G i=true
    ·by_cases ha:pinA o G i
     ·rw[redE_yes hlt hp ha] at h
      cases hr:redE (pinO o i) (pinG o G i) (i - 1) with
      | none=>rw[hr] at h; cases h
      | some r =>
        rw[hr] at h
        obtain⟨st',o'',G''⟩:=r
        simp only[Option.map_some,Option.some.injEq,Prod.mk.injEq] at h
        obtain⟨-,rfl,rfl⟩:=h
        have hl:=zd hlt
        have:=ih (pinO o i) (pinG o G i) (i - 1) st' (by omega) (by omega) (pinG_len hlt hg) hr
        exact⟨this.1,by omega⟩
     ·rw[yo hlt hp ha] at h; cases h
    ·rw[redE_no hlt (by simpa using hp)] at h
     exact ih o G (i+1) st (by omega) (by omega) hg h
   ·rw[zU hlt] at h
    cases h
    exact⟨hg,jR _⟩
theorem traceE_len {l:List UInt8}{st:List (Nat×Int)}{o:List UInt8}{G:List E3}(h:traceE l=some (st,o,G)): G.length=o.length+1∧o.length≤l.length:=by
 have h1:=redE_len _ _ _ 0 st (jR _) (Nat.zero_le _) (readE_len l) h
 have h2:=readE_out l
 exact⟨h1.1,by omega⟩
variable {w:World} {b k:Nat} {c:Array Value} {T:TypeId}
theorem Rd.set {B:Nat}{p:Nat}{ov gv:Value}{l:List Q3}{o:List UInt8}{G:List E3}(h:Rd B w p ov gv l o G){z:Nat×Nat}(hb:w.heap[b]? = some (.cells c T z))(v:Value)(hT:T≠158∧T≠111∧T≠154∧T≠152∧T≠5∧T≠28:=by decide): Rd B (w.setCell ⟨b,k,none⟩ v) p ov gv l o G :=
 h.kept fun b' c' T' hb' hT'=>jS _ _ _ _ (jI hb' hb (by
  obtain⟨h1,h2,h3,h4,h5,h6⟩:=hT
  rintro rfl
  rcases hT' with h | h | h | h | h | h
  ·exact h1 h
  ·exact h2 h
  ·exact h3 h
  ·exact h4 h
  ·exact h5 h
  ·exact h6 h.1))
theorem StRow.set {B0:Nat}{v:Value}{st:List (Nat×Int)}(h:StRow B0 w v st){z:Nat×Nat}(hb:w.heap[b]? = some (.cells c T z))(u:Value)(hT:T≠42∧T≠5:=by decide): StRow B0 (w.setCell ⟨b,k,none⟩ u) v st :=
 h.kept fun b' c' T' hb' _ hT'=>jS _ _ _ _ (jI hb' hb (by
  obtain⟨h1,h2⟩:=hT
  rintro rfl
  rcases hT' with h | h
  ·exact h1 h
  ·exact h2 h))
theorem IsE.set {V:Value}{x:E3}(h:IsE w V x){z:Nat×Nat}(hb:w.heap[b]? = some (.cells c T z))(u:Value)(hT:T≠158∧T≠111∧T≠154:=by decide): IsE (w.setCell ⟨b,k,none⟩ u) V x :=
 h.kept fun b' c' T' hb' hT'=>jS _ _ _ _ (jI hb' hb (by
  obtain⟨h1,h2,h3⟩:=hT
  rintro rfl
  rcases hT' with h | h | h
  ·exact h1 h
  ·exact h2 h
  ·exact h3 h))
theorem set3_same' {x y z:Value}(h:w.heap[b]? = some (.cells #[x,y,z] T (0,0)))(p:Value): (w.setCell ⟨b,0,none⟩ p).heap[b]? = some (.cells #[p,y,z] T (0,0)):=heap_setCell_same w b 0 _ T p h
theorem set3_same'' {x y z:Value}(h:w.heap[b]? = some (.cells #[x,y,z] T (0,0)))(p q:Value): ((w.setCell ⟨b,0,none⟩ p).setCell ⟨b,1,none⟩ q).heap[b]? = some (.cells #[p,q,z] T (0,0)):=heap_setCell_same _ b 1 _ T q (set3_same' h p)
structure TrV (b1 b2 b3 B0:Nat)(st:List (Nat×Int))(o:List UInt8)(G:List E3)(sv:Value)(qu qv qm:Option Addr)(w:World): Prop where
 row:StRow B0 w sv st
 el:IsE w (.agg #[.pointer qu,.pointer qv,.pointer qm]) (endE o G)
 v1:w.heap[b1]? = some (.cells #[sv] 23 (0,0))
 v2:w.heap[b2]? = some (.cells #[.int .i64 o.length] 3 (0,0))
 v3:w.heap[b3]? = some (.cells #[.pointer qu,.pointer qv,.pointer qm] 28 (0,0))
def Tr1Q (b1 b2 b3:Nat)(r:Option RedR)(W:World)(e:Ending)(W':World): Prop :=
 (∃ st o G,r=some (st,o,G)∧e=.returned (.tuple #[])∧∃ sv qu qv qm,Hid (TrV b1 b2 b3 W.heap.size st o G sv qu qv qm W')∧Hid (Fr [b1,b2,b3] W W'))∨(r=none∧e=pan 5∧Hid (Below W.heap.size W W'))
theorem trace1_any {W:World}{s:ByteArray}(hs:s.size≤1000){b0 b1 b2 b3:Nat}{sv0:Value}{z0:Int}{o0 o1 o2:Option Addr} 
 (H:Hid (Has W [(b0,#[.string s],9),(b1,#[sv0],23),(b2,#[.int .i64 z0],3),(b3,#[.pointer o0,.pointer o1,.pointer o2],28)])) :
 Calls Tryz.prog 46 #[.pointer (some ⟨b0,0,none⟩),.pointer (some ⟨b1,0,none⟩),.pointer (some ⟨b2,0,none⟩),.pointer (some ⟨b3,0,none⟩)] W (Tr1Q b1 b2 b3 (traceE s.data.toList) W):=by
 have c0:=H.out.cell (b:=b0) (c:=#[.string s]) (T:=9) (by simp) 0
 have hRd:=read_calls (W:=W) s hs
 have HSz:Hid ((readE s.data.toList).1.length≤1000):=by
  show _≤_
  have:=readE_out s.data.toList
  simp at this; omega
 go_enter Tryz.func46,Tryz.ntmps46
 go_wp2_with fail
 refine hRd.mono ?_
 rintro e w1 ⟨p,ov,gv,q,rfl,hr1,hb1⟩
 have HB1:=jH hb1.out
 have hRe:=reduce_any hr1.out (by have:=HSz.out; omega) (readE_len _)
 have HLow:=jH hr1.out.lows
 clear hRd hr1 hb1 c0
 go_wp2_with fail
 refine hRe.mono ?_
 rintro e w2 (⟨st,o,G,hre,sv,ov2,gv2,l2,rfl,hr2,hs2,hb2⟩ | ⟨hno,rfl,hb2⟩)
 rotate_left
 ·refine And.intro rfl ?_
  exact Or.inr ⟨hno,rfl,⟨hb2.out.os.trans HB1.out.os,hb2.out.tape.trans HB1.out.tape,hb2.out.output.trans HB1.out.output,Nat.le_trans HB1.out.size hb2.out.size,fun k hk=>(hb2.out.block k hk).trans (HB1.out.block k hk)⟩⟩
 obtain⟨sa,sc,hsv⟩:∃ sa sc,sv=.slice sa st.length sc:=by
  obtain⟨vs,k1,k2,k3⟩:=hs2.out.row
  exact ja k2
 obtain⟨N,hN⟩:∃ N,N=st.length:=⟨_,rfl⟩
 rw[← hN] at hsv
 subst hsv
 clear hN
 have HRe:Hid (traceE s.data.toList=some (st,o,G)):=hre
 have HB2:Hid (Below W.heap.size W w2):=⟨hb2.out.os.trans HB1.out.os,hb2.out.tape.trans HB1.out.tape,hb2.out.output.trans HB1.out.output,Nat.le_trans HB1.out.size hb2.out.size,fun k hk=>(hb2.out.block k hk).trans (HB1.out.block k hk)⟩
 have HS2:Hid (StRow W.heap.size w2 (.slice sa N sc) st):=⟨by
  obtain⟨vs,k1,k2,k3⟩:=hs2.out.row
  exact⟨vs,k1,k2,fun i u t hu ht=>⟨(k3 i u t hu ht).1,fun b e=>Nat.le_trans HB1.out.size ((k3 i u t hu ht).2 b e)⟩⟩,fun b e=>Nat.le_trans HB1.out.size (hs2.out.own b e)⟩
 have HR2:=jH hr2.out
 have HH2:=jH (H.out.below HB2.out)
 have y1:=HH2.out (b1,#[sv0],23) (by simp)
 dsimp only at y1
 have d1:=HH2.out.cell (b:=b1) (c:=#[sv0]) (T:=23) (by simp) 0
 have f1:=jF y1 0
 have hlen:=traceE_len hre
 have hol:o.length≤100000:=by have:=hlen.2; simp at this; omega
 have HR3:=jH (HR2.out.set (k:=0) y1 (.slice sa N sc))
 have HS3:=jH (HS2.out.set (k:=0) y1 (.slice sa N sc))
 have HF3:Hid (Fr [b1,b2,b3] W (w2.setCell ⟨b1,0,none⟩ (.slice sa N sc))):=(Fr.of_below HB2.out).pre (je _ _ (by simp))
 have hEn:=end_calls HR3.out hlen.1 hol
 have Y1:Hid ((w2.setCell ⟨b1,0,none⟩ (.slice sa N sc)).heap[b1]? = some (.cells #[.slice sa N sc] 23 (0,0))):=heap_setCell_same w2 b1 0 _ 23 _ y1
 have y2:=HH2.out (b2,#[.int .i64 z0],3) (by simp)
 have y3:=HH2.out (b3,#[.pointer o0,.pointer o1,.pointer o2],28) (by simp)
 dsimp only at y2 y3
 have Y2:Hid ((w2.setCell ⟨b1,0,none⟩ (.slice sa N sc)).heap[b2]? = some (.cells #[.int .i64 z0] 3 (0,0))):=(jS _ _ _ _ (jI y2 y1 (by decide))).trans y2
 have Y3:Hid ((w2.setCell ⟨b1,0,none⟩ (.slice sa N sc)).heap[b3]? = some (.cells #[.pointer o0,.pointer o1,.pointer o2] 28 (0,0))):=(jS _ _ _ _ (jI y3 y1 (by decide))).trans y3
 clear hRe hre hr2 hs2 hb2 y1 y2 y3 hlen
 go_wp2_with fail
 clear d1 f1
 obtain⟨w3,hw3⟩:∃ w3,w3=w2.setCell ⟨b1,0,none⟩ (.slice sa N sc):=⟨_,rfl⟩
 rw[← hw3] at HR3 HS3 HF3 hEn Y1 Y2 Y3 ⊢
 clear hw3
 refine hEn.mono ?_
 rintro e w4 ⟨qu,qv,qm,rfl,hie,hb4⟩
 have HS4:=jH (HS3.out.below hb4.out)
 have HF4:=jH (HF3.out.pre (Fr.of_below hb4.out))
 have Z1:=jH (Below.here hb4.out Y1.out)
 have Z2:=jH (Below.here hb4.out Y2.out)
 have Z3:=jH (Below.here hb4.out Y3.out)
 have HIE:=jH hie.out
 have d2:=jB Z2.out 0
 have f2:=jF Z2.out 0
 have n23:b2≠b3:=jI Z2.out Z3.out (by decide)
 have d3:=jB Z3.out 0
 have d31:=jB Z3.out 1
 have d32:=jB Z3.out 2
 have f3:=jF Z3.out 0
 have f31:=jF Z3.out 1
 have f32:=jF Z3.out 2
 clear hEn hie hb4 Y1 Y2 Y3
 go_wp2_with fail
 go_end0
 have k2:(w4.setCell ⟨b2,0,none⟩ (.int .i64 o.length)).heap[b2]? = some (.cells #[.int .i64 o.length] 3 (0,0)):=heap_setCell_same w4 b2 0 _ 3 _ Z2.out
 have k1:(w4.setCell ⟨b2,0,none⟩ (.int .i64 o.length)).heap[b1]? = some (.cells #[.slice sa N sc] 23 (0,0)):=(jS _ _ _ _ (jI Z1.out Z2.out (by decide))).trans Z1.out
 have k3:(w4.setCell ⟨b2,0,none⟩ (.int .i64 o.length)).heap[b3]? = some (.cells #[.pointer o0,.pointer o1,.pointer o2] 28 (0,0)):=(jS _ _ _ _ (jI Z3.out Z2.out (by decide))).trans Z3.out
 refine Or.inl ⟨st,o,G,HRe.out,rfl,.slice sa N sc,qu,qv,qm,⟨?_,?_,?_,?_,?_⟩,?_⟩
 ·exact (((HS4.out.set Z2.out _).set k3 _).set (set3_same' k3 (.pointer qu)) _).set (set3_same'' k3 (.pointer qu) (.pointer qv)) _
 ·exact IsE.store3 (HIE.out.set Z2.out _) k3
 ·exact (ji _ (jI k1 k3 (by decide)) _ _ _).trans k1
 ·exact (ji _ (jI k2 k3 (by decide)) _ _ _).trans k2
 ·exact z7 k3
 ·exact (((HF4.out.pre (je _ _ (by simp))).pre (je _ _ (by simp))).pre (je _ _ (by simp))).pre (je _ _ (by simp))
end
def unitE (o:List UInt8)(G:List E3): Bool:=decide (o=[])&&decide (endE o G=Zero)
def Is1Q (b1:Nat)(r:Option RedR)(W:World)(e:Ending)(W':World): Prop :=
 (∃ st o G,r=some (st,o,G)∧e=.returned (.tuple #[])∧Hid (W'.heap[b1]? = some (.cells #[.bool (unitE o G)] 4 (0,0)))∧Hid (Fr [b1] W W'))∨(r=none∧e=pan 5∧Hid (Below W.heap.size W W'))
theorem is1_any {W:World}{s:ByteArray}(hs:s.size≤1000){b0 b1:Nat}{z0:Bool} 
 (H:Hid (Has W [(b0,#[.string s],9),(b1,#[.bool z0],4)])) :
 Calls Tryz.prog 93 #[.pointer (some ⟨b0,0,none⟩),.pointer (some ⟨b1,0,none⟩)] W (Is1Q b1 (traceE s.data.toList) W):=by
 have c0:=H.out.cell (b:=b0) (c:=#[.string s]) (T:=9) (by simp) 0
 have hRd:=read_calls (W:=W) s hs
 have HSz:Hid ((readE s.data.toList).1.length≤1000):=by
  show _≤_
  have:=readE_out s.data.toList
  simp at this; omega
 go_enter Tryz.func93,Tryz.ntmps93
 go_wp2_with fail
 refine hRd.mono ?_
 rintro e w1 ⟨p,ov,gv,q,rfl,hr1,hb1⟩
 have HB1:=jH hb1.out
 have hRe:=reduce_any hr1.out (by have:=HSz.out; omega) (readE_len _)
 clear hRd hr1 hb1 c0
 go_wp2_with fail
 refine hRe.mono ?_
 rintro e w2 (⟨st,o,G,hre,sv,ov2,gv2,l2,rfl,hr2,hs2,hb2⟩ | ⟨hno,rfl,hb2⟩)
 rotate_left
 ·refine And.intro rfl ?_
  exact Or.inr ⟨hno,rfl,⟨hb2.out.os.trans HB1.out.os,hb2.out.tape.trans HB1.out.tape,hb2.out.output.trans HB1.out.output,Nat.le_trans HB1.out.size hb2.out.size,fun k hk=>(hb2.out.block k hk).trans (HB1.out.block k hk)⟩⟩
 have HRe:Hid (traceE s.data.toList=some (st,o,G)):=hre
 have HB2:Hid (Below W.heap.size W w2):=⟨hb2.out.os.trans HB1.out.os,hb2.out.tape.trans HB1.out.tape,hb2.out.output.trans HB1.out.output,Nat.le_trans HB1.out.size hb2.out.size,fun k hk=>(hb2.out.block k hk).trans (HB1.out.block k hk)⟩
 have hlen:=traceE_len hre
 have hol:o.length≤100000:=by have:=hlen.2; simp at this; omega
 have hEn:=end_calls hr2.out hlen.1 hol
 clear hRe hre hr2 hs2 hb2 hlen
 go_wp2_with fail
 refine hEn.mono ?_
 rintro e w4 ⟨qu,qv,qm,rfl,hie,hb4⟩
 have HB4:=jH (Below.trans' HB2.out hb4.out)
 have HIE:=jH hie.out
 have HH4:=jH (H.out.below HB4.out)
 have HB5:Hid (Below W.heap.size W (w4.alloc (.cells #[.pointer qu,.pointer qv,.pointer qm] 28))):=HB4.out.alloc HB4.out.size _
 have HD5:Hid (Below w4.heap.size w4 (w4.alloc (.cells #[.pointer qu,.pointer qv,.pointer qm] 28))):=(Below.refl _ _).alloc (jR _) _
 have HIE5:=jH (HIE.out.below HD5.out)
 have HH5:=jH (HH4.out.below HD5.out)
 have y1:=HH5.out (b1,#[.bool z0],4) (by simp)
 dsimp only at y1
 have Y1:=jH y1
 have d1:=jB Y1.out 0
 have f1:=jF Y1.out 0
 clear hEn hie hb4 y1
 by_cases ho:o=[]
 ·have hlz:o.length=0:=by rw[ho];rfl
  have HU:Hid (unitE o G=decide (endE o G=Zero)):=by show _=_; unfold unitE; simp[ho]
  have hUn:=unit_calls HIE5.out
  rw[hlz]
  clear ho hlz
  clear d1 f1
  go_wp2_with fail
  refine hUn.mono ?_
  rintro e w6 ⟨rfl,hb6⟩
  have Y6:=jH (Below.here hb6.out Y1.out)
  have HB6:=jH (Below.trans' HB5.out hb6.out)
  have d1:=jB Y6.out 0
  have f1:=jF Y6.out 0
  clear hUn hb6
  go_wp2_with fail
  go_end0
  refine Or.inl ⟨st,o,G,HRe.out,rfl,?_,(Fr.of_below HB6.out).pre (je _ _ (by simp))⟩
  show _=_
  rw[HU.out]
  exact heap_setCell_same w6 b1 0 _ 4 _ Y6.out
 ·have hlz:o.length≠0:=by intro h; exact ho (List.length_eq_zero_iff.1 h)
  have hlz1:decide ((o.length:Int)=0)=false:=by simp only[decide_eq_false_iff_not];omega
  have hlz2:((o.length:Int)==0)=false:=by simpa using hlz1
  have HU:Hid (unitE o G=false):=by show _=_; unfold unitE; simp[ho]
  clear ho
  go_wp2_with fail
  go_end0
  refine Or.inl ⟨st,o,G,HRe.out,rfl,?_,(Fr.of_below HB5.out).pre (je _ _ (by simp))⟩
  show _=_
  rw[HU.out]
  exact heap_setCell_same _ b1 0 _ 4 _ Y1.out
end Sr
