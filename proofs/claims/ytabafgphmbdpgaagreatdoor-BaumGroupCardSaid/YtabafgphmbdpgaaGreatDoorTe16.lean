/- Texts of this claim, joined: Ops2, Late. -/
import Derived.Test.YtabafgphmbdpgaaGreatDoorTe1
import Derived.Test.YtabafgphmbdpgaaGreatDoorTe15
import Derived.Deep.RegionHeld2
set_option maxHeartbeats 8000000
set_option maxRecDepth 100000
namespace Sr
open Go Go.Proofs Go.RowKit Go.Maps Go.WideMaps
section
theorem signT_places (f:Nat→Nat)(x:Int): signT ((form x).map fun t=>(t.1,f t.2))=isg x:=by
 rw[← signT_pf [] x]
 unfold pf
 cases form x with
 | nil=>rfl
 | cons t l=>rfl
variable {W:World} {v:Value} {x:Int} {l:List PT}
theorem qQ (hx:IsN W v x): Calls Tryz.prog 30 #[v] W fun e W'=>e=.returned (.int .i64 (isg x))∧Hid (Below W.heap.size W W'):=by
 obtain⟨q,rfl⟩:=hx.ptr
 obtain⟨pv,sv,fl,HR0⟩:=hx.get'
 have HR:Hid (∀ w',Below W.heap.size W w'→Rows w' (.agg #[.pointer q]) x pv sv fl):=HR0
 have hs:=fun w' hb=>(HR.out w' hb).self
 have HB:Hid (Below W.heap.size W (W.alloc (.cells #[.pointer q] 26))):=(Below.refl _ _).alloc (jR _) _
 clear HR0 hx
 go_enter Tryz.func30,Tryz.ntmps30
 go_wp2_with fail
 refine (hs _ HB.out).mono ?_
 rintro e w1 ⟨rfl,o,rfl⟩
 have HB2:=jH (HB.out.alloc (by simp) o)
 have hS:=sign_calls (HR.out _ HB2.out).srow
 have hsg:Hid (signT (atPl (Sr.parts x) x)=isg x):=by show _=_; exact signT_places (fun e=>(Sr.parts x).idxOf e) x
 clear hs HB
 go_wp2_with fail
 refine hS.mono ?_
 rintro e w2 ⟨rfl,rfl⟩
 clear hS
 go_wp2_with fail
 go_ret
 exact⟨congrArg (fun z=>Ending.returned (.int .i64 z)) hsg.out,HB2⟩
theorem yF {u:Value}{y:Int}(hx:IsN W v x)(hy:IsN W u y): Calls Tryz.prog 31 #[v,u] W fun e W'=>e=.returned (.int .i64 (isg (x - y)))∧Hid (Below W.heap.size W W'):=by
 obtain⟨qx,rfl⟩:=hx.ptr
 obtain⟨qy,rfl⟩:=hy.ptr
 obtain⟨hcov,hcl⟩:=cov_two hx.1 hy.1
 have HX:=jH hx
 have HY:=jH hy
 have HCl:=jH hcl
 clear hx hy hcov hcl
 go_enter Tryz.func31,Tryz.ntmps31
 go_wp2_with fail
 obtain⟨W0,hW0⟩:∃ W0,W0=(W.alloc (.cells #[.pointer qx] 26)).alloc (.cells #[.pointer qy] 26):=⟨_,rfl⟩
 rw[← hW0]
 have HB0:Hid (Below W.heap.size W W0):=by show Below _ _ _; rw[hW0];exact ((Below.refl _ _).alloc (jR _) _).alloc (by simp) _
 have hz0:W.heap.size+2=W0.heap.size:=by rw[hW0];simp
 have X0:Hid (W0.heap[W.heap.size]? = some (.cells #[.pointer qx] 26 (0,0))):=by show _=_; rw[hW0,jE _ _ (by simp)];exact j7 rfl
 have X1:Hid (W0.heap[W.heap.size+1]? = some (.cells #[.pointer qy] 26 (0,0))):=by show _=_; rw[hW0];exact j7 (by simp)
 clear hW0
 have HN:=zc (covC [x,y]) (by have:=HCl.out.le; omega) W0
 refine HN.mono ?_
 rintro e w1 ⟨p,F,D,rfl,HWO,HFE⟩
 clear HN
 have HT1:=jH (wt_new HWO.out HFE.out)
 have c0:w1.cell? ⟨W.heap.size,0,none⟩=some (.pointer qx):=by rw[jB ((HT1.out.low.block _ (by omega)).trans X0.out)];rfl
 clear HWO HFE
 go_wp2_with fail
 refine (zn HT1 (HX.out.below HB0.out) (by have:=HCl.out.le; omega)).mono ?_
 rintro e w2 ⟨F2,D2,vs2,rfl,hxm,hpre2,HT2,_⟩
 have c1:w2.cell? ⟨W.heap.size+1,0,none⟩=some (.pointer qy):=by rw[jB ((HT2.out.low.block _ (by omega)).trans X1.out)];rfl
 clear c0 HT1 hpre2
 go_wp2_with fail
 refine (zn HT2 (HY.out.below HB0.out) (by have:=HCl.out.le; omega)).mono ?_
 rintro e w3 ⟨F3,D3,vs3,rfl,hym,hpre3,HT3,_⟩
 have hxi:=zV hpre3.out hxm.out
 have HXm:Hid (x∈vs3):=qN hpre3.out hxm.out
 rw[← hxi]
 have HC:=world_cmp (C:=covC [x,y]) (p:=p) (F:=F3) (D:=D3) (gk:=[]) (m:=1+2000+2000) (jU HXm.out) (jU hym.out) w3 (jH HT3.out.wo)
 clear c1 HT2 hpre3 hxm hxi
 go_wp2_with fail
 refine HC.mono ?_
 rintro e w4 ⟨rfl,_,hf4⟩
 clear HC
 go_wp2_with fail
 go_ret
 exact⟨rfl,Below.trans' HB0.out (qL HT3.out.low HT3.out.hi hf4.out)⟩
theorem setS {g n cap i:Nat}{t:PT}(b:Bool)(hi:l[i]? = some t)(h:W.ownsRow 0 154 2 (.slice (some ⟨g,0,none⟩) n cap) n (tcells l)):
 (W.setCell ⟨g,i*2,none⟩ (.bool b)).ownsRow 0 154 2 (.slice (some ⟨g,0,none⟩) n cap) n (tcells (l.set i (b,t.2))):=by
 obtain⟨h1,⟨h2,_⟩ | ⟨g',cap',cur,hv,_,h4,h5,h6,h7,h8⟩⟩:=h
 ·cases h2
 ·cases hv
  have k2:=heap_setCell_same W g (i*2) _ 154 (.bool b) h4
  obtain⟨_,e0⟩:=qG hi
  have hs:((tcells l).set (i*2) (.bool b)).set (i*2+1) (.int .i64 (t.2:Nat))=(tcells l).set (i*2) (.bool b):=by
   refine List.ext_getElem? fun j=>?_
   by_cases hj:j=i*2+1
   ·subst hj
    have hlt:=(jL e0).1
    rw[List.getElem?_set_self (by simpa using hlt),List.getElem?_set_ne (by omega),e0]
   ·rw[List.getElem?_set_ne (Ne.symm hj)]
  refine⟨?_,.inr ⟨g,cap,_,rfl,Nat.zero_le _,k2,h5,h6,by simp[h7],?_⟩⟩
  ·rw[qT];simp[h1]
  ·rw[qT,hs,Array.toList_setIfInBounds,List.take_set,h8]
def negl (l:List PT): List PT:=l.map fun t=>(!t.1,t.2)
theorem negl_len (l:List PT): (negl l).length=l.length:=by simp[negl]
theorem negl_get {k:Nat}{t:PT}(ht:l[k]? = some t): (negl (l.take k)++l.drop k)[k]? = some t∧negl (l.take (k+1))++l.drop (k+1)=(negl (l.take k)++l.drop k).set k (!t.1,t.2):=by
 have hk:=(jL ht).1
 have e2:(negl (l.take k)).length=k:=by rw[negl_len,List.length_take];omega
 constructor
 ·rw[List.getElem?_append_right (by omega),e2,Nat.sub_self,List.getElem?_drop,Nat.add_zero,ht]
 ·have e1:l.drop k=t::l.drop (k+1):=zy ht
  have e3:negl (l.take (k+1))=negl (l.take k)++[(!t.1,t.2)]:=by rw[j8 ht];simp[negl]
  rw[e3,e1,List.append_assoc,List.set_append_right _ _ (by omega),e2,Nat.sub_self]
  simp
theorem negated_calls (hl:TRow W v l)(hlen:l.length≤1000000):
 Calls Tryz.prog 123 #[v] W fun e W'=>∃ v',e=.returned v'∧Hid (TRow W' v' (negl l))∧Hid (Below W.heap.size W W')∧Hid (∀ b,v'.ownBlock=some b→W.heap.size≤b):=by
 have HCl:=zX hl (by omega)
 go_enter Tryz.func123,Tryz.ntmps123
 go_wp2_with fail
 refine HCl.mono ?_
 rintro y w1 ⟨v1,rfl,hr1,hb1,ho1⟩
 clear HCl
 obtain⟨a1,c1,rfl,_,_⟩:=hr1.out.shape
 have K0:Hid (w1.ownsRow 0 154 2 (.slice a1 l.length c1) l.length (tcells (negl (l.take 0)++l.drop 0))):=hr1.out
 have HO:Hid (∀ b,(Value.slice a1 l.length c1).ownBlock=some b→W.heap.size≤b):=ho1
 clear hr1 ho1
 go_wp2_with fail
 go_loopg [8] l.length (fun g1 vi wr=>∃ k:Nat,vi=.int .i64 k∧k≤l.length∧l.length - k≤g1∧Hid (wr.ownsRow 0 154 2 (.slice a1 l.length c1) l.length (tcells (negl (l.take k)++l.drop k)))∧Hid (Below W.heap.size W wr))
 case atStart=>exact⟨0,rfl,by omega,by omega,K0,hb1⟩
 case round =>
  clear K0 hb1
  obtain⟨k,rfl,hkl,hg,HK,HB⟩:=hrel
  by_cases hk:k<l.length
  ·have hkz:(k:Int)<(l.length:Int):=by omega
   have hk0:(0:Int)≤(k:Int):=Int.natCast_nonneg k
   have hkw:IntKind.i64.wrap ((k:Int)+1)=(k:Int)+1:=IntWalk.i64_in _ (by omega)
   obtain⟨t,ht⟩:∃ t,l[k]? = some t:=⟨_,jG hk⟩
   obtain⟨hlk,hnx0⟩:=negl_get ht
   have hnx:Hid (negl (l.take (k+1))++l.drop (k+1)=(negl (l.take k)++l.drop k).set k (!t.1,t.2)):=hnx0
   clear hnx0
   obtain⟨hh1,⟨hh2,hh3⟩ | ⟨g,cap,cur,hv,_,h4,h5,h6,h7,h8⟩⟩:=HK.out
   ·omega
   ·cases hv
    obtain⟨d1,_⟩:=qG hlk
    rw[← h8,List.getElem?_take_of_lt (by omega),Array.getElem?_toList,← jB h4] at d1
    have f1:=jF h4 (k*2)
    have HS:Hid _:=setS (!t.1) hlk HK.out
    have HB2:Hid (Below W.heap.size W (wr.setCell ⟨g,k*2,none⟩ (.bool (!t.1)))):=⟨HB.out.os,HB.out.tape,HB.out.output,by have:=HB.out.size; simpa using this,fun b hb=>(jS _ _ _ _ (show b≠g by have:=HO.out g rfl; omega)).trans (HB.out.block b hb)⟩
    obtain⟨s,a⟩:=t
    have hnot:∀ (x:Bool) (w:World),(Op.unary .not (.bool x)).run Tryz.prog w=.ok (.bool (!x)) w:=fun _ _=>rfl
    clear hh1 h4 h5 h6 h7 h8 ht hlk
    go_wp2_with fail
    go_roundg (l.length - (k+1))
    case measure=>omega
    case rel=>exact⟨k+1,by go_num,by omega,by omega,by show World.ownsRow _ _ _ _ _ _ _; rw[hnx.out];exact HS.out,HB2⟩
  ·have hkz:¬ ((k:Int)<(l.length:Int)):=by omega
   have HR:Hid (TRow wr (.slice a1 l.length c1) (negl l)):=by
    have h:=HK.out
    rw[List.take_of_length_le (by omega),List.drop_eq_nil_of_le (by omega),List.append_nil] at h
    show TRow _ _ _
    unfold TRow; rw[negl_len];exact h
   go_wp2_with fail
   go_ret
   exact⟨_,rfl,HR,HB,HO⟩
theorem atPl_neg (l:List Nat)(x:Int): atPl l (-x)=negl (atPl l x):=by
 unfold atPl negl; rw[yh,List.map_map,List.map_map];rfl
theorem Below.here {w:World}(h:Below W.heap.size W w){b:Nat}{c:Array Value}{T:TypeId}{z:Nat×Nat}(hb:W.heap[b]? = some (.cells c T z)): w.heap[b]? = some (.cells c T z):=(h.block b (jA hb).1).trans hb
theorem Neg_calls (hx:IsN W v x): Calls Tryz.prog 87 #[v] W fun e W'=>∃ q,e=.returned (.agg #[.pointer q])∧Hid (IsN W' (.agg #[.pointer q]) (-x))∧Hid (Below W.heap.size W W'):=by
 have hx0:=hx
 obtain⟨h0,⟨rfl,rfl⟩ | ⟨h1,b,pv,sv,fl,rfl,h2⟩⟩:=hx
 ·go_enter Tryz.func87,Tryz.ntmps87
  go_wp2_with fail
  refine bodyPost_ret (v:=.agg #[.pointer none]) (by simp[results,Tryz.results87,go_sem]) rfl ?_
  exact⟨none,rfl,⟨by simpa using h0,.inl ⟨by simp,rfl⟩⟩,((Below.refl _ _).alloc (jR _) _).alloc (by simp) _⟩
 ·have HN:=jH h2
  have H0:=jH h0
  have H1:Hid (x≠0):=h1
  have hlen:(atPl (Sr.parts x) x).length≤300:=by have:=h0.1; simpa [atPl] using this
  obtain⟨a,c,rfl,_,_⟩:=h2.self.shape
  obtain⟨n,hn⟩:∃ n,n=(atPl (Sr.parts x) x).length:=⟨_,rfl⟩
  have hbl:b<W.heap.size:=(jA h2.obj).1
  have hb0:b≠W.heap.size:=by omega
  have hb1:b≠W.heap.size+1:=by omega
  have hb1s:W.heap.size+1≠b:=by omega
  have hself:=h2.self
  rw[← hn] at HN hself
  have HNg:=fun w hr=>negated_calls (W:=w) (v:=.slice a n c) (l:=atPl (Sr.parts x) x) hr (by omega)
  obtain⟨pa,pc,hpv⟩:∃ pa pc,pv=.slice pa (Sr.parts x).length pc:=by
   obtain⟨_,⟨q1,q2⟩ | ⟨g,cap,cur,q1,_⟩⟩:=h2.parts
   ·exact⟨none,0,by rw[q1,q2]⟩
   ·exact⟨_,cap,q1⟩
  obtain⟨np,hnp⟩:∃ np,np=(Sr.parts x).length:=⟨_,rfl⟩
  rw[← hnp] at hpv
  subst hpv
  have HW0:Hid (Below W.heap.size W ((W.alloc (.cells #[.pointer (some ⟨b,0,none⟩)] 26)).alloc (.cells #[.pointer none] 26)).drew):=(((Below.refl _ _).alloc (jR _) _).alloc (by simp) _).drew
  have e0:Hid (((W.alloc (.cells #[.pointer (some ⟨b,0,none⟩)] 26)).alloc (.cells #[.pointer none] 26)).drew.heap[W.heap.size]? = some (.cells #[.pointer (some ⟨b,0,none⟩)] 26 (0,0))):=(jE _ _ (by simp)).trans (j7 rfl)
  have e1:Hid (((W.alloc (.cells #[.pointer (some ⟨b,0,none⟩)] 26)).alloc (.cells #[.pointer none] 26)).drew.heap[W.heap.size+1]? = some (.cells #[.pointer none] 26 (0,0))):=j7 (by simp)
  have HSf:=jH (jK hself HW0.out)
  have hob:=Below.here HW0.out HN.out.obj
  have hS0:((W.alloc (.cells #[.pointer (some ⟨b,0,none⟩)] 26)).alloc (.cells #[.pointer none] 26)).drew.cell? ⟨W.heap.size,0,none⟩=some (.pointer (some ⟨b,0,none⟩))∧((W.alloc (.cells #[.pointer (some ⟨b,0,none⟩)] 26)).alloc (.cells #[.pointer none] 26)).drew.cell? ⟨b,0,none⟩=some (.slice pa np pc)∧((W.alloc (.cells #[.pointer (some ⟨b,0,none⟩)] 26)).alloc (.cells #[.pointer none] 26)).drew.cell? ⟨b,1,none⟩=some (.slice a n c):=by
   refine⟨by rw[jB e0.out];rfl,?_,?_⟩
   ·rw[jB hob];rfl
   ·rw[jB hob];rfl
  have HS0:=jH hS0
  have cw:W.cell? ⟨b,0,none⟩=some (.slice pa np pc):=by rw[jB HN.out.obj];rfl
  clear h0 h1 h2 hx0 hn hself hnp hob hS0
  go_enter Tryz.func87,Tryz.ntmps87
  go_wp2_with fail
  go_region_held3 (fun w'=>w'.cell? ⟨W.heap.size,0,none⟩=some (.pointer (some ⟨b,0,none⟩))∧w'.cell? ⟨b,0,none⟩=some (.slice pa np pc)∧w'.cell? ⟨b,1,none⟩=some (.slice a n c))
   (first | exact HS0.out | exact HS1.out | go_keep)
   (first | (go_at_call 123
             refine (HNg _ HSf.out).mono ?_
             rintro e w5 ⟨v5,rfl,hr5,hb5,ho5⟩
             obtain⟨a5,c5,rfl,_,_⟩:=hr5.out.shape
             obtain⟨n5,hn5⟩:∃ n5,n5=(negl (atPl (Sr.parts x) x)).length:=⟨_,rfl⟩
             rw[← hn5] at hr5
             rw[← hn5]
             have HE1:=jH (Below.here hb5.out e1.out)
             have s1:∀ o,(w5.alloc o).cell? ⟨W.heap.size+1,0,none⟩=some (.pointer none):=fun o=>by rw[jB ((jE _ _ (jA HE1.out).1).trans HE1.out)];rfl
             have s2:∀ o,(w5.alloc o).frozen? ⟨W.heap.size+1,0,none⟩=false:=fun o=>jF ((jE _ _ (jA HE1.out).1).trans HE1.out) 0
             clear hn5 ho5
             have HS1:Hid (w5.cell? ⟨W.heap.size,0,none⟩=some (.pointer (some ⟨b,0,none⟩))∧w5.cell? ⟨b,0,none⟩=some (.slice pa np pc)∧w5.cell? ⟨b,1,none⟩=some (.slice a n c)) :=
              ⟨by rw[hb5.out.cell (by simp; omega)];exact HS0.out.1,by rw[hb5.out.cell (by simp; omega)];exact HS0.out.2.1,by rw[hb5.out.cell (by simp; omega)];exact HS0.out.2.2⟩))
  clear HNg s1 s2 hb0 hb1 hb1s cw
  go_wp2_with fail
  refine bodyPost_ret (v:=.agg #[.pointer (some ⟨w5.heap.size,0,none⟩)]) (by simp[results,Tryz.results87,go_sem,World.cell?_setCell_same,(jB ((jE w5 (.cells #[.slice pa np pc,.slice a5 n5 c5] 158) (jA HE1.out).1).trans HE1.out) 0)]) rfl ?_
  have hb5':=Below.trans' HW0.out hb5.out
  have hE:(w5.alloc (.cells #[.slice pa np pc,.slice a5 n5 c5] 158)).heap[W.heap.size+1]? = some (.cells #[.pointer none] 26 (0,0)):=(jE _ _ (jA HE1.out).1).trans HE1.out
  refine⟨_,rfl,?_,(hb5'.alloc hb5'.size _).setCell (by show W.heap.size≤W.heap.size+1; omega) _⟩
  refine IsN.setCell ?_ hE (by decide) _
  have hnb:=HN.out.below hb5'
  refine⟨allowed_neg.2 H0.out,.inr ⟨by have:=H1.out; show -x≠0; omega,w5.heap.size,.slice pa np pc,.slice a5 n5 c5,fl,rfl,jD _ _,?_,fun i p hi=>?_,?_⟩⟩
  ·rw[parts_neg];exact World.ownsRow.alloc hnb.parts _
  ·rw[parts_neg] at hi ⊢
   obtain⟨u,k1,k2⟩:=hnb.rows i p hi
   exact⟨u,k1,World.ownsRow.alloc k2 _⟩
  ·rw[parts_neg,atPl_neg];exact World.ownsRow.alloc hr5.out _
theorem Sub_calls {u:Value}{y:Int}(hx:IsN W v x)(hy:IsN W u y): Calls Tryz.prog 90 #[v,u] W (NQ (x - y) W):=by
 obtain⟨qx,rfl⟩:=hx.ptr
 obtain⟨qy,rfl⟩:=hy.ptr
 have HX:=jH hx
 have HY:=jH hy
 clear hx hy
 obtain⟨W0,hW0⟩:∃ W0,W0=((W.alloc (.cells #[.pointer qx] 26)).alloc (.cells #[.pointer qy] 26)).alloc (.cells #[.pointer none] 26):=⟨_,rfl⟩
 have HB0:Hid (Below W.heap.size W W0):=by show Below _ _ _; rw[hW0];exact (((Below.refl _ _).alloc (jR _) _).alloc (by simp) _).alloc (by simp; omega) _
 have hz0:W.heap.size+3=W0.heap.size:=by rw[hW0];simp
 have X0:Hid (W0.heap[W.heap.size]? = some (.cells #[.pointer qx] 26 (0,0))):=by show _=_; rw[hW0,jE _ _ (by simp; omega),jE _ _ (by simp)];exact j7 rfl
 have X1:Hid (W0.heap[W.heap.size+1]? = some (.cells #[.pointer qy] 26 (0,0))):=by show _=_; rw[hW0,jE _ _ (by simp)];exact j7 (by simp)
 have X2:Hid (W0.heap[W.heap.size+1+1]? = some (.cells #[.pointer none] 26 (0,0))):=by show _=_; rw[hW0];exact j7 (by simp)
 have HWe:=jH hW0
 have HK:Hid (∀ w',Below W0.heap.size W0 w'→w'.cell? ⟨W.heap.size,0,none⟩=some (.pointer qx)∧w'.cell? ⟨W.heap.size+1,0,none⟩=some (.pointer qy)):=fun w' hb =>
  ⟨by rw[jB (Below.here hb X0.out)];rfl,by rw[jB (Below.here hb X1.out)];rfl⟩
 have n1:W.heap.size+1≠W.heap.size+1+1:=by omega
 have n0:W.heap.size≠W.heap.size+1+1:=by omega
 have n1s:W.heap.size+1+1≠W.heap.size+1:=by omega
 have n0s:W.heap.size+1+1≠W.heap.size:=by omega
 have HNeg:=Neg_calls (W:=W0.drew) ((HY.out.below HB0.out).below ((Below.refl _ _).drew))
 clear hW0
 go_enter Tryz.func90,Tryz.ntmps90
 go_wp2_with fail
 rw[show ((W.alloc (.cells #[.pointer qx] 26)).alloc (.cells #[.pointer qy] 26)).alloc (.cells #[.pointer none] 26)=W0 from HWe.out.symm]
 have hS0:W0.drew.cell? ⟨W.heap.size,0,none⟩=some (.pointer qx)∧W0.drew.cell? ⟨W.heap.size+1,0,none⟩=some (.pointer qy):=HK.out W0.drew ((Below.refl _ _).drew)
 go_region_held3 (fun w'=>w'.cell? ⟨W.heap.size,0,none⟩=some (.pointer qx)∧w'.cell? ⟨W.heap.size+1,0,none⟩=some (.pointer qy))
  (first | exact hS0 | exact HS1.out | exact HS2.out | go_keep)
  (first
    | (go_at_call 87
       refine HNeg.mono ?_
       rintro e w5 ⟨q5,rfl,hi5,hb5⟩
       have HB5:=jH (Below.trans' (W:=W0) ((Below.refl _ _).drew) hb5.out)
       have HS1:=jH (HK.out w5 HB5.out)
       have HAdd:=yE (((HX.out.below HB0.out).below HB5.out)) hi5.out
       clear hi5 hb5)
    | (go_at_call 101
       refine HAdd.mono ?_
       rintro e w6 ⟨q6,er,rfl,hb6,hn6⟩
       have HB6:=jH (Below.trans' HB5.out hb6.out)
       have HS2:=jH (HK.out w6 HB6.out)
       have HE2:=jH (Below.here HB6.out X2.out)
       have s1:w6.cell? ⟨W.heap.size+1+1,0,none⟩=some (.pointer none):=by rw[jB HE2.out];rfl
       have s2:w6.frozen? ⟨W.heap.size+1+1,0,none⟩=false:=jF HE2.out 0
       clear HAdd hb6))
 clear HNeg n1 n0 n1s n0s
 go_wp2_with fail
 refine bodyPost_ret (v:=.tuple #[.agg #[.pointer q6],.int .i64 er]) (by simp[results,Tryz.results90,go_sem,s1]) rfl ?_
 refine⟨q6,er,rfl,(Below.trans' HB0.out HB6.out).setCell (by show W.heap.size≤W.heap.size+1+1; omega) _,?_⟩
 show NR _ _ _ _
 rw[Int.sub_eq_add_neg]
 exact hn6.out.setCell HE2.out (by decide) _
end
end Sr
namespace Sr
open Go
section
variable {i fuel:Nat} {w:World}
section
variable {P:Program} {ops:Array Oper} {Q:Exit→Act→World→Prop} {md:Region.Mode} {S:World→Prop} {late:List Nat}
def wpAnyL (P:Program)(md:Region.Mode)(ops:Array Oper)(Q:Exit→Act→World→Prop)(S:World→Prop)(late:List Nat): Nat→Array Bool→Act→World→Prop
 | 0,listed,a,w=>Region.ready md ops listed=[]∧Q .normal a w
 | fuel+1,listed,a,w =>
   (Region.ready md ops listed=[]→Q .normal a w) ∧
   ∀ i∈Region.ready md ops listed,wpOp P ops Q i (fun a' w'=>(late.contains i=true∨S w')∧wpAnyL P md ops Q S late fuel (listed.setIfInBounds i true) a' w') a w
theorem wpAny_of_late:∀ (fuel:Nat) (listed:Array Bool) (a:Act) (w:World),wpAnyL P md ops Q S late fuel listed a w→wpAny P md ops Q fuel listed a w
 | 0,_,_,_,h=>h
 | fuel+1,_,_,_,h=>⟨h.1,fun i hi=>wpOp_mono (fun a' w' h'=>wpAny_of_late fuel _ a' w' h'.2) (h.2 i hi)⟩
def marks (md:Region.Mode)(ops:Array Oper)(i:Nat)(l:List Nat)(m:Array Bool): Array Bool :=
 l.foldl (fun m j=>m.push (match ops[j]? with | some o=>o.after.any (fun e=>Region.binds md e&&(e.on==i||m.getD e.on false)) | none=>false)) m
def waits (md:Region.Mode)(ops:Array Oper)(late:List Nat)(i:Nat): Bool:=late.all fun j=>(marks md ops i (List.range ops.size) #[]).getD j false
def shut (md:Region.Mode)(ops:Array Oper)(listed:Array Bool): Bool :=
 (List.range ops.size).all fun k=>!listed.getD k false||match ops[k]? with | some o=>o.after.all (fun e=>!Region.binds md e||listed.getD e.on false) | none=>true
theorem shut_spec {listed:Array Bool}(h:shut md ops listed=true){k:Nat}{o:Oper}(ho:ops[k]? = some o)(hk:listed.getD k false=true){e:Edge}(he:e∈o.after)(hb:Region.binds md e=true): listed.getD e.on false=true:=by
 have h1:=List.all_eq_true.1 h k (List.mem_range.2 (jA ho).1)
 rw[hk,ho] at h1
 simp only[Bool.not_true,Bool.false_or] at h1
 have h2:=Array.all_eq_true_iff_forall_mem.1 h1 e he
 rw[hb] at h2
 simpa using h2
theorem shut_set {listed:Array Bool}(h:shut md ops listed=true){j:Nat}(hj:j∈Region.ready md ops listed): shut md ops (listed.setIfInBounds j true)=true:=by
 refine List.all_eq_true.2 fun k hk=>?_
 cases ho:ops[k]? with
 | none=>simp
 | some o =>
   simp only[Bool.or_eq_true,Bool.not_eq_true']
   by_cases hjk:j=k
   ·subst hjk
    right
    obtain⟨_,o',ho',hall⟩:=mem_ready.1 hj
    rw[ho] at ho'; cases ho'
    refine Array.all_eq_true_iff_forall_mem.2 fun e he=>?_
    cases hb:Region.binds md e with
    | false=>rfl
    | true=>simp only[Bool.not_true,Bool.false_or];exact getD_set_true (hall e he hb)
   ·cases hl:listed.getD k false with
    | false=>left; rw[getD_set_ne false hjk];exact hl
    | true =>
      right
      refine Array.all_eq_true_iff_forall_mem.2 fun e he=>?_
      cases hb:Region.binds md e with
      | false=>rfl
      | true=>simp only[Bool.not_true,Bool.false_or];exact getD_set_true (shut_spec h ho hl he hb)
theorem marks_spec {i:Nat}{listed:Array Bool}(hs:shut md ops listed=true)(hi:listed.getD i false=false): ∀ (n:Nat) (l:List Nat) (m:Array Bool),m.size=n→l=List.range' n l.length→(∀ k,m.getD k false=true→listed.getD k false=false∧∃ o e,ops[k]? = some o∧e∈o.after∧Region.binds md e=true∧listed.getD e.on false=false) →
 ∀ k,(marks md ops i l m).getD k false=true→listed.getD k false=false∧∃ o e,ops[k]? = some o∧e∈o.after∧Region.binds md e=true∧listed.getD e.on false=false
 | _,[],_,_,_,hm=>hm
 | n,j::l,m,hsz,hl,hm=>by
   have hj:j=n∧l=List.range' (n+1) l.length:=by
    rw[List.length_cons,List.range'_succ] at hl
    exact⟨by injection hl,by injection hl⟩
   obtain⟨rfl,hl'⟩:=hj
   refine marks_spec hs hi (j+1) l _ (by simp[hsz]) hl' fun k hk=>?_
   by_cases hkj:k=j
   ·subst hkj
    have hg:(m.push (match ops[k]? with | some o=>o.after.any (fun e=>Region.binds md e&&(e.on==i||m.getD e.on false)) | none=>false)).getD k false=(match ops[k]? with | some o=>o.after.any (fun e=>Region.binds md e&&(e.on==i||m.getD e.on false)) | none=>false):=by
     rw[Array.getD_eq_getD_getElem?,← hsz,Array.getElem?_push_size];rfl
    rw[hg] at hk
    cases ho:ops[k]? with
    | none=>rw[ho] at hk; cases hk
    | some o =>
      rw[ho] at hk
      obtain⟨e,he,hb⟩:=Array.any_eq_true'.1 hk
      simp only[Bool.and_eq_true,Bool.or_eq_true,beq_iff_eq] at hb
      have hun:listed.getD e.on false=false:=by
       rcases hb.2 with h | h
       ·rw[h];exact hi
       ·exact (hm e.on h).1
      refine⟨?_,o,e,rfl,he,hb.1,hun⟩
      cases hlk:listed.getD k false with
      | false=>rfl
      | true=>rw[shut_spec hs ho hlk he hb.1] at hun; cases hun
   ·refine hm k ?_
    rw[Array.getD_eq_getD_getElem?,Array.getElem?_push,if_neg (by omega)] at hk
    rw[Array.getD_eq_getD_getElem?];exact hk
theorem not_late {j:Nat}{listed:Array Bool}(hw:waits md ops late i=true)(hu:shut md ops listed=true)(hi:i∈Region.ready md ops listed)(hj:j∈Region.ready md ops listed): late.contains j=false:=by
 cases hc:late.contains j with
 | false=>rfl
 | true =>
   exfalso
   obtain⟨_,oj,hoj,hall⟩:=mem_ready.1 hj
   have hi0:listed.getD i false=false:=by
    have h:=(mem_ready.1 hi).1
    rcases Nat.lt_or_ge i listed.size with h' | h'
    ·simp[h'] at h ⊢;exact h
    ·simp[Array.getElem?_eq_none h'] at h
   have h1:=List.all_eq_true.1 hw j (by simpa using hc)
   obtain⟨_,o,e,ho,he,hb,hun⟩:=marks_spec hu hi0 0 (List.range ops.size) #[] rfl (by rw[List.length_range,List.range_eq_range']) (fun k hk=>by simp at hk) j h1
   rw[hoj] at ho; cases ho
   rw[hall e he hb] at hun; cases hun
theorem wpAnyL_first {oi:Oper}{v:Value}(hi:ops[i]? = some oi)(hsel:∀ (j:Nat) (o:Oper) cs b,ops[j]? = some o→o.op≠.select cs b) 
 (hQ:∀ c a w,Q (.panic c) (a.put oi.dst v) w→Q (.panic c) a w) (hw8:waits md ops late i=true) :
 ∀ (fuel:Nat) (listed:Array Bool) (a:Act) (w:World),shut md ops listed=true →
  (∀ j oj,ops[j]? = some oj→j≠i→listed.getD j true=false→(∀ e∈oj.after,Region.binds md e=true→e.on≠i)→oi.apart ops oj=true) →
  i∈Region.ready md ops listed→YieldsIf P ops S oi v a→S w →
  wpAnyL P md ops Q S late fuel (listed.setIfInBounds i true) (a.put oi.dst v) w→wpAnyL P md ops Q S late (fuel+1) listed a w:=by
 intro fuel
 induction fuel with
 | zero =>
   intro listed a w hu _ hr hy hS H
   refine⟨fun h=>(by rw[h] at hr; cases hr),fun j hj=>?_⟩
   by_cases hji:j=i
   ·subst hji; exact hy.wpOp hi hS ⟨.inr hS,H⟩
   ·have:=ready_mono hj hji
    rw[H.1] at this
    cases this
 | succ fuel ih =>
   intro listed a w hu hfree hr hy hS H
   refine⟨fun h=>(by rw[h] at hr; cases hr),fun j hj=>?_⟩
   by_cases hji:j=i
   ·subst hji; exact hy.wpOp hi hS ⟨.inr hS,H⟩
   ·have hnl:=not_late hw8 hu hr hj
    have h1:=H.2 j (ready_mono hj hji)
    obtain⟨hjun,oj,hoj,hall⟩:=mem_ready.1 hj
    have hnot:∀ e∈oj.after,Region.binds md e=true→e.on≠i:=fun e he hb heq=>by
     have h1:=hall e he hb
     have h0:=(mem_ready.1 hr).1
     rw[heq] at h1
     rcases Nat.lt_or_ge i listed.size with h' | h'
     ·simp[h'] at h0 h1; rw[h0] at h1; cases h1
     ·simp[Array.getElem?_eq_none h'] at h1
    have h2:=wpOp_putIf hoj (hfree j oj hoj hji hjun hnot) (fun cs b=>hsel i oi cs b hi) (fun cs b=>hsel j oj cs b hoj) hQ hy h1
    have hfree':∀ k ok,ops[k]? = some ok→k≠i→(listed.setIfInBounds j true).getD k true=false →
     (∀ e∈ok.after,Region.binds md e=true→e.on≠i)→oi.apart ops ok=true:=fun k ok hk hki hun hno=>by
     refine hfree k ok hk hki ?_ hno
     by_cases hjk:j=k
     ·subst hjk; exact hjun
     ·rw[getD_set_ne true hjk] at hun; exact hun
    have hu':=shut_set hu hj
    refine wpOp_mono (fun a' w' h3=>?_) h2
    have hS3:S w':=h3.2.1.resolve_left (by rw[hnl];decide)
    refine⟨.inr hS3,ih (listed.setIfInBounds j true) a' w' hu' hfree' (ready_mono hr (Ne.symm hji)) h3.1 hS3 ?_⟩
    rw[Array.setIfInBounds_comm _ _ hji]
    exact h3.2.2
theorem jC {oi:Oper}{v:Value}{listed:Array Bool}{a:Act}(hi:ops[i]? = some oi) 
 (hs:Region.noSelect ops=true) (hf:Region.free md ops listed i=true) (hr:(Region.ready md ops listed).contains i=true)
 (hw8:waits md ops late i=true) (hu:shut md ops listed=true)
 (hQ:∀ c a w,Q (.panic c) (a.put oi.dst v) w→Q (.panic c) a w) (hy:YieldsIf P ops S oi v a) (hS:S w)
 (h:wpAnyL P md ops Q S late fuel (listed.setIfInBounds i true) (a.put oi.dst v) w):wpAnyL P md ops Q S late (fuel+1) listed a w :=
 wpAnyL_first hi (Region.noSelect_spec hs) hQ hw8 fuel listed a w hu (Region.free_spec hi hf) (by simpa using hr) hy hS h
theorem qJ {o:Oper}{listed:Array Bool}{a:Act}(ho:ops[i]? = some o)(hr:Region.ready md ops listed=[i]) 
 (h:∀ K':Act→World→Prop,Shut (∀ a w,S w→(S w→wpAnyL P md ops Q S late fuel (listed.setIfInBounds i true) a w)→K' a w)→if Region.wanted o (yielded ops a.tmps)=true then Oper.wp P o a w K' Q else K' (a.put o.dst undef) w) :
 wpAnyL P md ops Q S late (fuel+1) listed a w :=
 ⟨fun h0=>(by rw[h0] at hr; cases hr),fun j hj=>by
  rw[hr] at hj
  obtain rfl:j=i:=by simpa using hj
  exact wpOp_step ho (fun K' hK=>h K' (fun a w hS hW=>hK a w ⟨.inr hS,hW hS⟩))⟩
theorem zH {o:Oper}{listed:Array Bool}{a:Act}(ho:ops[i]? = some o)(hr:Region.ready md ops listed=[i])(hl:late.contains i=true) 
 (h:∀ K':Act→World→Prop,Shut (∀ a w,wpAnyL P md ops Q S late fuel (listed.setIfInBounds i true) a w→K' a w)→if Region.wanted o (yielded ops a.tmps)=true then Oper.wp P o a w K' Q else K' (a.put o.dst undef) w) :
 wpAnyL P md ops Q S late (fuel+1) listed a w :=
 ⟨fun h0=>(by rw[h0] at hr; cases hr),fun j hj=>by
  rw[hr] at hj
  obtain rfl:j=i:=by simpa using hj
  exact wpOp_step ho (fun K' hK=>h K' (fun a w hW=>hK a w ⟨.inl hl,hW⟩))⟩
theorem zZ {listed:Array Bool}{a:Act}(hr:Region.ready md ops listed=[])(h:Q .normal a w):
 ∀ fuel,wpAnyL P md ops Q S late fuel listed a w
 | 0=>⟨hr,h⟩
 | _+1=>⟨fun _=>h,by rw[hr];simp⟩
theorem qw {id:Nat}{a:Act}(hm:P.follows .mixedOrders=true)(hS:S w.drew) 
 (h:S w.drew→wpAnyL P .any ops Q S late ops.size (Array.replicate ops.size false) a w.drew):(Code.region id ops true).wp P Q a w :=
 wp_region_any hm (wpAny_of_late _ _ _ _ (h hS))
end
end
end Sr
