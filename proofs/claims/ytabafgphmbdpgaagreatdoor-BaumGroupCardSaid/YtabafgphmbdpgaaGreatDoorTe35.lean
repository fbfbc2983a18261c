/- Texts of this claim, joined: RNeg, RShf, RPrP, RPr. -/
import Derived.Test.YtabafgphmbdpgaaGreatDoorTe1
import Derived.Test.YtabafgphmbdpgaaGreatDoorTe13
import Derived.Test.YtabafgphmbdpgaaGreatDoorTe19
import Derived.Test.YtabafgphmbdpgaaGreatDoorTe34
set_option maxHeartbeats 8000000
set_option maxRecDepth 100000
namespace Sr
open Go Go.Proofs Go.RowKit Go.Maps Go.WideMaps
def flipP (t:PT): PT:=(!t.1,t.2)
theorem pf_neg (vs:List Int)(x:Int): pf vs (-x)=(pf vs x).map flipP:=by
 unfold pf; rw[yh,List.map_map,List.map_map];rfl
theorem rNeg_calls {C:List Int}{W:World}{p:Nat}{fv:Value}{fl:List Value}{vs:List Int}(H:RW C W p fv fl vs){i:Nat}{x:Int}(hi:vs[i]? = some x)(hC:-x∈C): Calls Tryz.prog 72 #[.pointer (some ⟨p,0,none⟩),.int .i64 (i:Nat)] W (RNumQ C W p fv fl vs (-x)):=by
 have c0:=H.c0
 have HH:=jH H
 have hxm:∀ e∈exps x,(e:Int)∈vs:=fun e he=>H.wv.mem_exps (jM hi) he
 obtain⟨g,cap,rfl,hrow⟩:=H.formAt
 obtain⟨va,_,cva,ra⟩:=hrow i x hi
 have hil:i<vs.length:=(jL hi).1
 have i0:(0:Int)≤(i:Int):=by omega
 have iz:(i:Int)<(vs.length:Int):=by omega
 have hla:=Nat.le_trans (yz hxm) H.vlen
 have Ra:=jH ra
 have Hxm:=jH hxm
 have hpn:=pf_neg vs x
 obtain⟨l,hl⟩:∃ l,l=pf vs x:=⟨_,rfl⟩
 obtain⟨n,hn⟩:∃ n,n=l.length:=⟨_,rfl⟩
 rw[← hl] at Ra hla hpn
 rw[← hn] at hla
 have HN:=jH hn
 have Hpn:=jH hpn
 have hbn:n≤8000000000000:=by omega
 have HC:=jH hC
 have k0:=fun o=>qn (W:=W) ((Below.refl _ _).alloc (jR _) o) c0
 have k1:=fun o=>qn (W:=W) ((Below.refl _ _).alloc (jR _) o) cva
 clear H hrow ra hi hxm hil hl hn hpn hC
 go_enter Tryz.func72,Tryz.ntmps72
 go_wp2_with (at_builtin; go_loud (refine app_R rfl _ _ rfl (.slice (some ⟨W.heap.size,0,none⟩) 0 0) [] rfl (RRow.nil (jD W _)) qO _ l rfl (Ra.out.src.below ((Below.refl _ _).alloc (jR _) _)) n ((Nat.zero_add _).trans HN.out.symm) l rfl hbn _ rfl ?_);intro g1 c1 w1 R1 G1 A1 L1)
 have B1:Hid (Below W.heap.size W w1):=Below.trans ((Below.refl W.heap.size W).alloc (jR _) (.cells #[] 139)) (j9 G1 (fun b hb=>by cases hb; exact jR _) (by simp))
 have O1:W.heap.size≤g1:=by
  rcases A1 with h | h
  ·cases h; exact jR _
  ·rw[h];simp
 have HNo:Hid (g1∉rB p (.slice (some ⟨g,0,none⟩) vs.length cap) fl):=fun hm=>by have:=HH.out.blt g1 hm; omega
 have R1':Hid (w1.ownsRow 0 139 2 (.slice (some ⟨g1,0,none⟩) n c1) n (tcells ((l.take 0).map flipP++l.drop 0))):=by show World.ownsRow _ _ _ _ _ _ _; have h:=R1; unfold RRow at h; rw[← HN.out] at h; exact h
 have HO1:=jH O1
 clear R1 G1 A1 L1 O1 k0 k1
 go_loopg [6] n (fun g2 vi wr=>∃ k:Nat,vi=.int .i64 k∧k≤n∧n - k≤g2∧Hid (wr.ownsRow 0 139 2 (.slice (some ⟨g1,0,none⟩) n c1) n (tcells ((l.take k).map flipP++l.drop k)))∧Hid (Below W.heap.size W wr))
 case atStart=>exact⟨0,rfl,by omega,by omega,R1',B1⟩
 case round =>
  clear R1' B1
  obtain⟨k,rfl,hkn,hg,HK,HB⟩:=hrel
  have hk0:(0:Int)≤(k:Int):=Int.natCast_nonneg k
  have hkw:IntKind.i64.wrap ((k:Int)+1)=(k:Int)+1:=IntWalk.i64_in _ (by omega)
  by_cases hk:k<n
  ·have hkz:(k:Int)<(n:Int):=by omega
   obtain⟨⟨s,d⟩,ht⟩:∃ t,l[k]? = some t:=⟨_,jG (by rw[← HN.out];exact hk)⟩
   have e2:((l.take k).map flipP).length=k:=by rw[List.length_map,List.length_take,← HN.out];omega
   have hlk:((l.take k).map flipP++l.drop k)[k]? = some (s,d):=by
    rw[List.getElem?_append_right (by omega),e2,Nat.sub_self,List.getElem?_drop,Nat.add_zero,ht]
   have hll:((l.take k).map flipP++l.drop k).length=n:=by rw[List.length_append,e2,List.length_drop,← HN.out];omega
   have hrr:RRow wr (.slice (some ⟨g1,0,none⟩) n c1) ((l.take k).map flipP++l.drop k):=by unfold RRow; rw[hll];exact HK.out
   obtain⟨_,_,he,hcell⟩:=hrr.get
   rw[hll] at he
   cases he
   obtain⟨g',hg',c0',c1'⟩:=hcell k _ hlk
   cases hg'
   dsimp only at c0'
   have hfr:=rfree hrr (k*2)
   have HS:=jH (setSg (!s) hlk HK.out)
   have hnx:((l.take k).map flipP++l.drop k).set k (!s,d)=(l.take (k+1)).map flipP++l.drop (k+1):=by
    rw[j8 ht,zy ht,List.map_append,List.append_assoc,List.set_append_right _ _ (by omega),e2,Nat.sub_self]
    simp[flipP]
   rw[hnx] at HS
   have HB2:Hid (Below W.heap.size W (wr.setCell ⟨g1,k*2,none⟩ (.bool (!s)))):=⟨HB.out.os,HB.out.tape,HB.out.output,by have:=HB.out.size; simpa using this,fun b hb=>(jS _ _ _ _ (show b≠g1 by have:=HO1.out; omega)).trans (HB.out.block b hb)⟩
   clear hnx hrr hcell c1' hlk hll e2 ht HK HB
   go_wp2_with fail
   go_roundg (n - (k+1))
   case measure=>omega
   case rel=>exact⟨k+1,by go_num,by omega,by omega,HS,HB2⟩
  ·obtain rfl:n=k:=by omega
   have hrr:RRow wr (.slice (some ⟨g1,0,none⟩) n c1) (pf vs (-x)):=by
    have h:=HK.out
    rw[List.take_of_length_le (by rw[← HN.out];omega),List.drop_eq_nil_of_le (by rw[← HN.out];omega),List.append_nil,← Hpn.out] at h
    have e1:(pf vs (-x)).length=n:=by rw[Hpn.out,List.length_map,← HN.out]
    unfold RRow; rw[e1];exact h
   have hA:=yk (HH.out.below HB.out) (x:=-x) (by rw[exps_neg];exact Hxm.out) hrr (.inl HC.out)
   clear hrr HK
   go_wp2_with fail
   refine hA.mono ?_
   rintro y w2 ⟨fv2,fl2,rfl,hp2⟩
   go_wp2_with fail
   go_ret
   exact⟨_,fv2,fl2,_,rfl,hp2.out.pre HB.out,jU (qt _ _)⟩
theorem rSub_calls {C:List Int}{W:World}{p:Nat}{fv:Value}{fl:List Value}{vs:List Int}(H:RW C W p fv fl vs){i j:Nat}{x y:Int}(hi:vs[i]? = some x)(hj:vs[j]? = some y){n m a b:Nat}(hx:Sz n a b x)(hy:Sz m a b y)(hnm:n+m≤2600)(ha:a≤1286)(hb:14≤b) 
 (hC:∀ z∈-y::sumAsk 0 (form x++form (-y)),z∈C):Calls Tryz.prog 85 #[.pointer (some ⟨p,0,none⟩),.int .i64 (i:Nat),.int .i64 (j:Nat)] W (RNumQ C W p fv fl vs (x - y)):=by
 have hN:=rNeg_calls H hj (hC _ (by simp))
 have HA:=jH (fun (W1:World) (fv1:Value) (fl1:List Value) (vs1:List Int) (h:RW C W1 p fv1 fl1 vs1) (j1:Nat) (hi1:vs1[i]? = some x) (hj1:vs1[j1]? = some (-y))=>rAdd_calls h hi1 hj1 hx hy.neg hnm ha hb (fun z hz=>hC z (by simp[hz])))
 have HI:=jH hi
 clear H hi hj hx hy hC
 go_enter Tryz.func85,Tryz.ntmps85
 go_wp2_with fail
 refine hN.mono ?_
 rintro e w1 ⟨j1,fv1,fl1,vs1,rfl,hp1,hj1⟩
 have hA:=HA.out w1 fv1 fl1 vs1 hp1.out.rw j1 (jW hp1.out.ext HI.out) hj1.out
 clear hN
 go_wp2_with fail
 refine hA.mono ?_
 rintro e w2 ⟨j2,fv2,fl2,vs2,rfl,hp2,hj2⟩
 go_wp2_with fail
 go_ret
 exact⟨j2,fv2,fl2,vs2,rfl,hp1.out.trans hp2.out,by rw[show x - y=x+-y by omega];exact hj2⟩
section
variable {x y:Int}
theorem Sz.any {n a:Nat}(h1:(form x).length≤n)(h2:∀ e∈exps x,(form (e:Int)).length≤a): ∃ b0,∀ b,b0≤b→Sz n a b x:=by
 refine⟨maxl ((exps x).flatMap fun (e:Nat)=>(exps (e:Int)).map fun (f:Nat)=>(form (f:Int)).length),fun b hb=>⟨h1,h2,fun e he f hf=>Nat.le_trans (le_maxl ?_) hb⟩⟩
 exact List.mem_flatMap.2 ⟨e,he,List.mem_map.2 ⟨f,hf,rfl⟩⟩
def shAsk (x y:Int): List Int:=shx x y::(exps x).flatMap fun (e:Nat)=>sumAsk 0 (form (e:Int)++form y)
theorem isg_n0 {z:Int}(h:0≤z): ¬ isg z<0:=by
 unfold isg; rw[if_neg (by omega)];split <;>omega
def shMix (x y:Int)(k:Nat): List Tm:=(shl x y).take k++(form x).drop k
theorem zm (x y:Int): (shl x y).length=(form x).length:=by simp[shl]
theorem shMix_len (x y:Int)(k:Nat): (shMix x y k).length=(form x).length:=by
 unfold shMix; rw[List.length_append,List.length_take,List.length_drop,zm];omega
theorem shMix_get {k:Nat}{t:Tm}(h:(form x)[k]? = some t): (shMix x y k)[k]? = some t:=by
 have hk:=(jL h).1
 unfold shMix
 rw[List.getElem?_append_right (by rw[List.length_take,zm];omega),List.length_take,zm,Nat.min_eq_left (by omega),Nat.sub_self,List.getElem?_drop,Nat.add_zero,h]
theorem shMix_set {k:Nat}{s:Bool}{e:Nat}(h:(form x)[k]? = some (s,e)): (shMix x y k).set k (s,((e:Int)+y).toNat)=shMix x y (k+1):=by
 have hk:=(jL h).1
 have h1:(shl x y)[k]? = some (s,((e:Int)+y).toNat):=by unfold shl; rw[List.getElem?_map,h];rfl
 unfold shMix
 have e2:((shl x y).take k).length=k:=by rw[List.length_take,zm];omega
 rw[j8 h1,List.append_assoc,List.set_append_right _ _ (by omega),e2,Nat.sub_self]
 have e3:(form x).drop k=(s,e)::(form x).drop (k+1):=by
  obtain⟨h3,h4⟩:=jL h
  rw[← h4,← List.drop_eq_getElem_cons h3]
 rw[e3];rfl
theorem rShift_calls {C:List Int}{W:World}{p:Nat}{fv:Value}{fl:List Value}{vs:List Int}(H:RW C W p fv fl vs){i j:Nat}(hi:vs[i]? = some x)(hj:vs[j]? = some y){n0 m a b c:Nat}(hx:Sz n0 a b x)(hy:Sz m b c y)(ham:a+m≤2600)(hb:b≤1286)(hok:shOK x y) 
 (hC:∀ z∈shAsk x y,z∈C):Calls Tryz.prog 118 #[.pointer (some ⟨p,0,none⟩),.int .i64 (i:Nat),.int .i64 (j:Nat)] W fun e W'=>∃ (q:Nat) (fv':Value) (fl':List Value) (vs':List Int),e=.returned (.tuple #[.int .i64 (q:Nat),.bool true])∧Hid (RPut C W W' p fv fv' fl fl' vs vs')∧Hid (vs'[q]? = some (shx x y)):=by
 have c0:=H.c0
 have HH:=jH H
 have hxm:∀ e∈exps x,(e:Int)∈vs:=fun e he=>H.wv.mem_exps (jM hi) he
 obtain⟨g,cap,rfl,hrow⟩:=H.formAt
 obtain⟨va,_,cva,ra⟩:=hrow i x hi
 have hil:i<vs.length:=(jL hi).1
 have i0:(0:Int)≤(i:Int):=by omega
 have iz:(i:Int)<(vs.length:Int):=by omega
 have hla:=Nat.le_trans (yz hxm) H.vlen
 have Ra:=jH ra
 have Hxm:=jH hxm
 obtain⟨n,hn⟩:∃ n,n=(form x).length:=⟨_,rfl⟩
 have hpl:(pf vs x).length=n:=by rw[hn];simp[pf]
 rw[hpl] at hla
 have HN:=jH hn
 have hbn:n≤8000000000000:=by omega
 have HC:=jH hC
 have Hj:=jH hj
 have Hok:=jH hok
 have HsX:=jH hx
 have HsY:=jH hy
 have HPl:=jH hpl
 have k0:=fun o=>qn (W:=W) ((Below.refl _ _).alloc (jR _) o) c0
 have k1:=fun o=>qn (W:=W) ((Below.refl _ _).alloc (jR _) o) cva
 clear H hrow ra hi hxm hil hn hC hj hok hx hy hpl
 go_enter Tryz.func118,Tryz.ntmps118
 go_wp2_with (at_builtin; go_loud (refine app_R rfl _ _ rfl (.slice (some ⟨W.heap.size,0,none⟩) 0 0) [] rfl (RRow.nil (jD W _)) qO _ (pf vs x) rfl (Ra.out.src.below ((Below.refl _ _).alloc (jR _) _)) n ((Nat.zero_add _).trans HPl.out) (pf vs x) rfl hbn _ rfl ?_);intro g1 c1 w1 R1 G1 A1 L1)
 have B1:Hid (Below W.heap.size W w1):=Below.trans ((Below.refl W.heap.size W).alloc (jR _) (.cells #[] 139)) (j9 G1 (fun b hb=>by cases hb; exact jR _) (by simp))
 have O1:W.heap.size≤g1:=by
  rcases A1 with h | h
  ·cases h; exact jR _
  ·rw[h];simp
 have HNo:Hid (g1∉rB p (.slice (some ⟨g,0,none⟩) vs.length cap) fl):=fun hm=>by have:=HH.out.blt g1 hm; omega
 have HR1:Hid (RRow w1 (.slice (some ⟨g1,0,none⟩) n c1) (plt vs (shMix x y 0))):=by
  show RRow _ _ _
  have e1:plt vs (shMix x y 0)=pf vs x:=by unfold shMix; simp[plt,pf]
  rw[e1];exact R1
 have HP1:Hid (RPut C W w1 p (.slice (some ⟨g,0,none⟩) vs.length cap) (.slice (some ⟨g,0,none⟩) vs.length cap) fl fl vs vs):=(RPut.refl HH.out).post B1.out
 have HM1:Hid (∀ t∈shMix x y 0,(t.2:Int)∈vs):=fun t ht=>by unfold shMix at ht; simp at ht; exact Hxm.out _ (Sr.mem_exps ht)
 have HO1:=jH O1
 clear R1 G1 A1 L1 O1 B1 k0 k1
 go_loopg [9] n (fun g2 vi wr=>∃ (k:Nat) (fv1:Value) (fl1:List Value) (vs1:List Int),vi=.int .i64 k∧k≤n∧n - k≤g2∧Hid (RPut C W wr p (.slice (some ⟨g,0,none⟩) vs.length cap) fv1 fl fl1 vs vs1)∧Hid (RRow wr (.slice (some ⟨g1,0,none⟩) n c1) (plt vs1 (shMix x y k)))∧Hid (∀ t∈shMix x y k,(t.2:Int)∈vs1)∧Hid (g1∉rB p fv1 fl1))
 case atStart=>exact⟨0,_,_,_,rfl,by omega,by omega,HP1,HR1,HM1,HNo⟩
 case round =>
  clear HR1 HP1 HM1 HNo
  obtain⟨k,fv1,fl1,vs1,rfl,hkn,hg,HP,HR,HM,HNo⟩:=hrel
  have hk0:(0:Int)≤(k:Int):=Int.natCast_nonneg k
  have hkw:IntKind.i64.wrap ((k:Int)+1)=(k:Int)+1:=IntWalk.i64_in _ (by omega)
  have hpl:(plt vs1 (shMix x y k)).length=n:=by unfold plt; rw[List.length_map,shMix_len,HN.out]
  by_cases hk:k<n
  ·have hkz:(k:Int)<(n:Int):=by omega
   obtain⟨⟨s,e⟩,ht⟩:∃ t,(form x)[k]? = some t:=⟨_,jG (by rw[← HN.out];exact hk)⟩
   have hme:e∈exps x:=Sr.mem_exps (jM ht)
   have hmm:=shMix_get (y:=y) ht
   have hti:(plt vs1 (shMix x y k))[k]? = some (s,vs1.idxOf (e:Int)):=by unfold plt; rw[List.getElem?_map,hmm];rfl
   obtain⟨_,_,he,hcell⟩:=HR.out.get
   rw[hpl] at he
   cases he
   obtain⟨g',hg',c0',c1'⟩:=hcell k _ hti
   cases hg'
   dsimp only at c0' c1'
   have hie:vs1[vs1.idxOf (e:Int)]? = some (e:Int):=jU (HM.out _ (jM hmm))
   obtain⟨b1,hb1⟩:=Sz.any (n:=a) (a:=b) (x:=(e:Int)) (HsX.out.ex e hme) (HsX.out.ex2 e hme)
   obtain⟨b2,hb2⟩:=Sz.any (n:=m) (a:=b) (x:=y) HsY.out.len HsY.out.ex
   have hA:=rAdd_calls HP.out.rw hie (jW HP.out.ext Hj.out) (hb1 (b1+b2+14) (by omega)) (hb2 (b1+b2+14) (by omega)) ham hb (by omega) (fun z hz=>HC.out z (by unfold shAsk; exact List.mem_cons_of_mem _ (List.mem_flatMap.2 ⟨e,hme,hz⟩)))
   have hez:((((e:Int)+y).toNat:Nat):Int)=(e:Int)+y:=Int.toNat_of_nonneg (Hok.out e hme)
   have Hez:=jH hez
   have hsg:=isg_n0 (Hok.out e hme)
   have Hti:=jH hti
   have Ht:=jH ht
   have Hpl:=jH hpl
   obtain⟨d,hd⟩:∃ d,vs1.idxOf (e:Int)=d:=⟨_,rfl⟩
   rw[hd] at hA c1' Hti
   clear hcell hb1 hb2 hie hmm hme hti ht hez hpl hd
   go_wp2_with fail
   refine hA.mono ?_
   rintro y1 w2 ⟨q,fv2,fl2,vs2,rfl,hp2,hq2⟩
   have HP2:=jH (HP.out.trans hp2.out)
   have hR2:RRow w2 (.slice (some ⟨g1,0,none⟩) n c1) (plt vs2 (shMix x y k)):=by rw[plt_ext hp2.out.ext HM.out];exact HR.out.fr HP.out.rw hp2.out.fr
   have hM2:∀ t∈shMix x y k,(t.2:Int)∈vs2:=fun t ht=>qN hp2.out.ext (HM.out t ht)
   have hpl2:(plt vs2 (shMix x y k)).length=n:=by unfold plt; rw[List.length_map,shMix_len,HN.out]
   have hti2:(plt vs2 (shMix x y k))[k]? = some (s,vs2.idxOf (e:Int)):=by unfold plt; rw[List.getElem?_map,shMix_get Ht.out];rfl
   have hN2:g1∉rB p fv2 fl2:=hp2.out.notin (by obtain⟨c',hc'⟩:=jO HR.out rfl; exact (jA hc').1) HNo.out
   obtain⟨_,_,he2,hcell2⟩:=hR2.get
   rw[hpl2] at he2
   cases he2
   obtain⟨g',hg',d0,d1⟩:=hcell2 k _ hti2
   cases hg'
   dsimp only at d0 d1
   have hfr:=rfree hR2 (k*2+1)
   rw[← Hez.out] at hq2
   have hqi:=HP2.out.rw.wv.idx_get hq2.out
   have hS:=setEx q hti2 (by have:=hR2; unfold RRow at this; rwa [hpl2] at this)
   have hset:(plt vs2 (shMix x y k)).set k (s,q)=plt vs2 (shMix x y (k+1)):=by
    rw[← shMix_set Ht.out]
    unfold plt
    rw[List.map_set]
    dsimp only
    rw[hqi]
   have HM3:Hid (∀ t∈shMix x y (k+1),(t.2:Int)∈vs2):=fun t ht=>by
    rw[← shMix_set Ht.out] at ht
    rcases List.mem_or_eq_of_mem_set ht with h | h
    ·exact hM2 t h
    ·subst h; exact jM hq2.out
   have HR3:Hid (RRow (w2.setCell ⟨g1,k*2+1,none⟩ (.int .i64 (q:Nat))) (.slice (some ⟨g1,0,none⟩) n c1) (plt vs2 (shMix x y (k+1)))):=by
    have e1:(plt vs2 (shMix x y (k+1))).length=n:=by unfold plt; rw[List.length_map,shMix_len,HN.out]
    show World.ownsRow _ _ _ _ _ _ _
    rw[e1,← hset];exact hS
   have HP3:=jH (HP2.out.store (k*2+1) (.int .i64 (q:Nat)) hN2 HO1.out)
   have hSg:=rSign_calls HP3.out.rw hq2.out
   rw[Hez.out] at hSg
   have HN3:=jH hN2
   generalize isg ((e:Int)+y)=sgz at hSg hsg
   have hsd:decide (sgz<0)=false:=by simpa using hsg
   clear hset hS hqi hcell2 hti2 hpl2 hM2 hR2 hA hN2
   go_wp2_with fail
   refine hSg.mono ?_
   rintro y2 w3 ⟨rfl,rfl⟩
   go_wp2_with fail
   go_roundg (n - (k+1))
   case measure=>omega
   case rel=>exact⟨k+1,fv2,fl2,vs2,by go_num,by omega,by omega,HP3,HR3,HM3,HN3⟩
  ·obtain rfl:n=k:=by omega
   have hmx:shMix x y n=form (shx x y):=by
    unfold shMix
    rw[List.take_of_length_le (by rw[zm,← HN.out];omega),List.drop_eq_nil_of_le (by rw[← HN.out];omega),List.append_nil,yP Hok.out]
   rw[hmx] at HR HM hpl
   have hA:=yk HP.out.rw (x:=shx x y) (fun e he=>by obtain⟨t,ht,rfl⟩:=List.mem_map.1 he; exact HM.out t ht) HR.out (.inl (HC.out _ (by unfold shAsk; simp)))
   clear hmx hpl HR HM
   go_wp2_with fail
   refine hA.mono ?_
   rintro y w2 ⟨fv2,fl2,rfl,hp2⟩
   go_wp2_with fail
   refine bodyPost_ret (results_tmp2 rfl _ _ _) rfl ?_
   exact⟨_,fv2,fl2,_,rfl,HP.out.trans hp2.out,jU (qt _ _)⟩
end
end Sr
namespace Sr
section
structure RMk (vs:List Int)(x:Int)(X r:Nat)(u:List Bool): Prop where
 len:u.length=X+1
 top:u[X]? = some true
 snd:∀ (j:Nat) (p:Int),u[j]? = some true→vs[j]? = some p→j=X∨∃ q:Nat,p=(q:Int)∧IsPart x q
 cls:∀ (l:Nat) (p:Int),r≤l→u[l]? = some true→vs[l]? = some p→∀ e∈exps p,u[vs.idxOf (e:Int)]? = some true
structure RMkI (vs:List Int)(x:Int)(X i m:Nat)(u:List Bool): Prop where
 mk':RMk vs x X (i+1) u
 done:∀ p,u[i]? = some true→vs[i]? = some p→∀ e∈(exps p).take m,u[vs.idxOf (e:Int)]? = some true
variable {i k y:Nat} {p:Int} {g l:List Nat}
section
variable {vs:List Int} {x:Int} {X:Nat}
theorem RMk.start:RMk vs x X (X+1) ((List.replicate (X+1) false).set X true) where
 len:=by simp
 top:=by simp
 snd:=fun j p hj hp=>by
  by_cases e:j=X
  ·exact .inl e
  ·rw[List.getElem?_set_ne (Ne.symm e),List.getElem?_replicate] at hj
   split at hj <;>cases hj
 cls:=fun l p hr hl _=>by
  have:=(jL hl).1
  simp at this; omega
theorem RMk.inner {u:List Bool}(h:RMk vs x X (i+1) u): RMkI vs x X i 0 u:=⟨h,fun _ _ _ e he=>by simp at he⟩
theorem RMkI.step (hw:WV vs)(hX:vs[X]? = some x){i m e:Nat}{p:Int}{u:List Bool}(h:RMkI vs x X i m u)(hi:vs[i]? = some p)(hui:u[i]? = some true)(he:(exps p)[m]? = some e):
 RMkI vs x X i (m+1) (u.set (vs.idxOf (e:Int)) true):=by
 have hem:e∈exps p:=jM he
 have hev:=hw.mem_exps (jM hi) hem
 have mono:∀ j:Nat,u[j]? = some true→(u.set (vs.idxOf (e:Int)) true)[j]? = some true:=fun j hj=>by
  by_cases ej:j=vs.idxOf (e:Int)
  ·subst ej; rw[List.getElem?_set_self (jL hj).1]
  ·rw[List.getElem?_set_ne (Ne.symm ej)];exact hj
 have back:∀ j:Nat,(u.set (vs.idxOf (e:Int)) true)[j]? = some true→u[j]? = some true∨j=vs.idxOf (e:Int):=fun j hj=>by
  by_cases ej:j=vs.idxOf (e:Int)
  ·exact .inr ej
  ·rw[List.getElem?_set_ne (Ne.symm ej)] at hj; exact .inl hj
 have hXl:=(jL h.mk'.top).1
 obtain⟨k,hk,hke⟩:=hw.closed i p hi e hem
 have hki:=hw.idx_get hke
 have hil:=(jL hui).1
 have hpart:∀ q:Int,vs[i]? = some q→IsPart x e:=fun q hq=>by
  rw[hi] at hq; cases hq
  rcases h.mk'.snd i p hui hi with h1 | ⟨q,rfl,h1⟩
  ·subst h1; rw[hX] at hi; cases hi; exact .here hem
  ·exact .step h1 hem
 refine⟨⟨by rw[List.length_set];exact h.mk'.len,mono _ h.mk'.top,fun j q hj hq=>?_,fun l q hl hul hq f hf=>?_⟩,fun q huq hq f hf=>?_⟩
 ·rcases back j hj with h1 | h1
  ·exact h.mk'.snd j q h1 hq
  ·subst h1; rw[hki,hke] at hq; cases hq
   exact .inr ⟨e,rfl,hpart p hi⟩
 ·rcases back l hul with h1 | h1
  ·exact mono _ (h.mk'.cls l q hl h1 hq f hf)
  ·omega
 ·rw[hi] at hq; cases hq
  rw[List.take_add_one,he] at hf
  rcases List.mem_append.1 hf with h1 | h1
  ·exact mono _ (h.done p hui hi f h1)
  ·have:f=e:=by simpa using h1
   subst this
   rw[List.getElem?_set_self (by rw[hki];have:=h.mk'.len; omega)]
theorem RMkI.next {m:Nat}{u:List Bool}(h:RMkI vs x X i m u)(hi:vs[i]? = some p)(hm:u[i]? = some true→(exps p).length≤m): RMk vs x X i u :=
 ⟨h.mk'.len,h.mk'.top,h.mk'.snd,fun l q hl hul hq f hf=>by
  rcases Nat.lt_or_ge i l with h1 | h1
  ·exact h.mk'.cls l q h1 hul hq f hf
  ·obtain rfl:l=i:=by omega
   rw[hi] at hq; cases hq
   exact h.done p hul hi f (by rw[List.take_of_length_le (hm hul)];exact hf)⟩
theorem RMk.iff (hw:WV vs)(hX:vs[X]? = some x){u:List Bool}(h:RMk vs x X 0 u){j:Nat}(hj:j<X)(hp:vs[j]? = some p): u[j]? = some true↔∃ q:Nat,p=(q:Int)∧q∈parts x:=by
 constructor
 ·intro hu
  rcases h.snd j p hu hp with h1 | ⟨q,h1,h2⟩
  ·omega
  ·exact⟨q,h1,mem_parts.2 h2⟩
 ·rintro⟨q,rfl,hq⟩
  have key:∀ q:Nat,IsPart x q→u[vs.idxOf (q:Int)]? = some true:=fun q hq=>by
   induction hq with
   | here he=>exact h.cls X x (Nat.zero_le _) h.top hX _ he
   | @step q r hq he ih =>
     have hm:=hw.mem_parts (jM hX) hq
     exact h.cls _ (q:Int) (Nat.zero_le _) ih (jU hm) r he
  have:=key q (mem_parts.1 hq)
  rwa [hw.idx_get hp] at this
end
def marked (u:List Bool)(k:Nat): List Nat:=(List.range k).filter fun i=>u.getD i false
theorem marked_yes {u:List Bool}(h:u[k]? = some true): marked u (k+1)=marked u k++[k]:=by
 unfold marked; rw[List.range_succ,List.filter_append];simp[List.getD_eq_getElem?_getD,h]
theorem marked_no {u:List Bool}(h:u[k]? = some false): marked u (k+1)=marked u k:=by
 unfold marked; rw[List.range_succ,List.filter_append];simp[List.getD_eq_getElem?_getD,h]
theorem marked_mem {u:List Bool}{j:Nat}: j∈marked u k↔j<k∧u[j]? = some true:=by
 unfold marked
 rw[List.mem_filter,List.mem_range]
 cases h:u[j]? with
 | none=>simp[List.getD_eq_getElem?_getD,h]
 | some b=>simp[List.getD_eq_getElem?_getD,h]
theorem marked_nodup (u:List Bool)(k:Nat): (marked u k).Nodup:=List.Pairwise.filter _ List.nodup_range
structure Ins (v:Nat→Int)(g l:List Nat)(i:Nat)(A:List Nat)(y:Nat)(B R:List Nat): Prop where
 eq:l=A++y::(B++R)
 len:A.length+B.length=i
 perm:l.Perm g
 srt:(A++B).Pairwise (fun a b=>v a<v b)
 lt:∀ b∈B,v y<v b
structure Srt (v:Nat→Int)(g l:List Nat)(i:Nat): Prop where
 perm:l.Perm g
 srt:(l.take i).Pairwise (fun a b=>v a<v b)
theorem Srt.inner {v:Nat→Int}(h:Srt v g l i)(hy:l[i]? = some y): Ins v g l i (l.take i) y [] (l.drop (i+1)):=by
 obtain⟨h1,h2⟩:=jL hy
 refine⟨?_,by simp; omega,h.perm,by simpa using h.srt,by simp⟩
 rw[List.nil_append,← h2,← List.drop_eq_getElem_cons h1,List.take_append_drop]
theorem Ins.swap {v:Nat→Int}{g l:List Nat}{i z y:Nat}{A B R:List Nat}(h:Ins v g l i (A++[z]) y B R)(hz:v y<v z): Ins v g ((l.set A.length y).set (A.length+1) z) i A y (z::B) R:=by
 have e1:l=A++z::y::(B++R):=by rw[h.eq];simp
 have e2:(l.set A.length y).set (A.length+1) z=A++y::z::(B++R):=by
  rw[e1,List.set_append_right _ _ (jR _),Nat.sub_self,List.set_append_right _ _ (by omega),show A.length+1 - A.length=0+1 by omega];rfl
 refine⟨by rw[e2];simp,by have:=h.len; simp at this ⊢;omega,?_,?_,?_⟩
 ·refine List.Perm.trans ?_ h.perm
  rw[e2,e1]
  exact List.Perm.append_left A (List.Perm.swap z y (B++R))
 ·have:=h.srt; simpa using this
 ·intro b hb
  rcases List.mem_cons.1 hb with rfl | hb
  ·exact hz
  ·exact h.lt b hb
theorem Ins.stop {v:Nat→Int}{A B R:List Nat}(h:Ins v g l i A y B R)(hA:A=[]∨∃ A' z,A=A'++[z]∧v z<v y): Srt v g l (i+1):=by
 refine⟨h.perm,?_⟩
 have e1:l.take (i+1)=A++y::B:=by
  rw[h.eq,show A++y::(B++R)=(A++y::B)++R by simp]
  rw[List.take_left' (by have:=h.len; simp; omega)]
 rw[e1]
 obtain⟨s1,s2,s3⟩:=List.pairwise_append.1 h.srt
 refine List.pairwise_append.2 ⟨s1,List.pairwise_cons.2 ⟨h.lt,s2⟩,fun a ha b hb=>?_⟩
 have hay:v a<v y:=by
  rcases hA with rfl | ⟨A',z,rfl,hz⟩
  ·simp at ha
  ·rcases List.mem_append.1 ha with h1 | h1
   ·have:=(List.pairwise_append.1 s1).2.2 a h1 z (by simp);omega
   ·have:a=z:=by simpa using h1
    subst this; exact hz
 rcases List.mem_cons.1 hb with rfl | hb
 ·exact hay
 ·have:=h.lt b hb; omega
theorem parts_srt {vs:List Int}(hw:WV vs){x:Int}{X:Nat}(hX:vs[X]? = some x){u:List Bool}(h:RMk vs x X 0 u)(hl:Srt (zb vs) (marked u X) l l.length): l=(parts x).map fun (p:Nat)=>vs.idxOf (p:Int):=by
 have hs:=hl.srt
 rw[List.take_length] at hs
 have hmem:∀ j,j∈l↔∃ q∈parts x,vs[j]? = some (q:Int):=fun j=>by
  rw[hl.perm.mem_iff,marked_mem]
  constructor
  ·rintro⟨h1,h2⟩
   obtain⟨p,hp⟩:∃ p,vs[j]? = some p:=⟨_,jG (by have:=(jL hX).1; omega)⟩
   obtain⟨q,rfl,hq⟩:=(h.iff hw hX h1 hp).1 h2
   exact⟨q,hq,hp⟩
  ·rintro⟨q,hq,hj⟩
   have hjX:j<X:=by
    obtain⟨e,he,h1⟩:=(mem_parts.1 hq).cases_top
    obtain⟨k,hk,hke⟩:=hw.closed X x hX e he
    rcases h1 with rfl | h1
    ·have e1:=hw.idx_get hj; have e2:=hw.idx_get hke; omega
    ·-- a part of a part lies ahead of it
     have key:∀ (a r:Nat),IsPart (a:Int) r→∀ j k:Nat,vs[k]? = some (a:Int)→vs[j]? = some (r:Int)→j<k:=by
      intro a r har
      induction har with
      | here he' =>
        intro j k hk hj
        obtain⟨k',hk',hke'⟩:=hw.closed k _ hk _ he'
        have e1:=hw.idx_get hj; have e2:=hw.idx_get hke'; omega
      | @step q r hq' he' ih =>
        intro j k hk hj
        have hqm:=hw.mem_parts (jM hk) hq'
        have h3:=ih _ k hk (jU hqm)
        obtain⟨k',hk',hke'⟩:=hw.closed _ _ (jU hqm) _ he'
        have e1:=hw.idx_get hj; have e2:=hw.idx_get hke'; omega
     have:=key e q h1 j k hke hj; omega
   exact⟨hjX,(h.iff hw hX hjX hj).2 ⟨q,rfl,hq⟩⟩
 have hval:l.map (fun j=>(zb vs j).toNat)=parts x:=by
  refine yJ ?_ (qR x) fun q=>?_
  ·rw[List.pairwise_map]
   refine hs.imp_of_mem fun {a b} ha hb hab=>?_
   obtain⟨q,_,h1⟩:=(hmem a).1 ha
   obtain⟨r,_,h2⟩:=(hmem b).1 hb
   rw[zE h1,zE h2] at hab
   rw[zE h1,zE h2];simp; omega
  ·rw[List.mem_map]
   constructor
   ·rintro⟨j,hj,rfl⟩
    obtain⟨q,hq,h1⟩:=(hmem j).1 hj
    rw[zE h1];simpa using hq
   ·intro hq
    have hqv:=hw.mem_parts (jM hX) (mem_parts.1 hq)
    exact⟨vs.idxOf (q:Int),(hmem _).2 ⟨q,hq,jU hqv⟩,by rw[zE (jU hqv)];simp⟩
 rw[← hval,List.map_map]
 conv=>lhs; rw[← List.map_id l]
 refine List.map_congr_left fun j hj=>?_
 obtain⟨q,_,h1⟩:=(hmem j).1 hj
 show j=vs.idxOf (((zb vs j).toNat:Nat):Int)
 rw[zE h1];simp[hw.idx_get h1]
end
end Sr
namespace Sr
open Go Go.Proofs Go.RowKit Go.Maps Go.WideMaps
section
section
variable {ops:Array Oper} {rest:List Oper} {o:Oper} {a:Act} {Q:Exit→Act→World→Prop} {W:World}
theorem app_I2 (hgd:o.guard=none)(s x:Operand)(ho:o.op=.call { callee:=.builtin .append,args:=#[s,x],argTypes:=#[80,80] }) 
 (v:Value) (l:List Nat) (hs:a.eval s=v) (hown:IRow W v l) (B:Nat) (t:Nat) (hx:a.eval x=.slice (some ⟨B,0,none⟩) 1 1)
 (hB:W.heap[B]? = some (.cells #[.int .i64 (t:Nat)] 3 (0,0))) (n:Nat) (hn:l.length+1=n) (hb:n≤8000000000000) (H:Nat) (hH:W.heap.size=H)
 (h:∀ g cap w',IRow w' (.slice (some ⟨g,0,none⟩) n cap) (l++[t])→W.grownBy w' v.ownBlock→(v.ownBlock=some g∨g=H)→g<w'.heap.size→wpList Tryz.prog ops Q rest (a.put o.dst (.slice (some ⟨g,0,none⟩) n cap)) w') :
 wpList Tryz.prog ops Q (o::rest) a W:=by
 subst hn
 obtain⟨i,hi,hz0,hz1,hz2⟩:=info_parts info3
 refine wpList_append_lies W hgd s x 80 ho 0 3 i _ 1 8 un80 hi hz0 hz1 hz2 rfl (by decide) v l.length _ hs hown ⟨B,0,none⟩ 1 1 [.int .i64 (t:Nat)] hx rfl (fun j u hu=>World.news_of_block hB j u hu) (by simp; rfl) (by omega) (by simp only[maxLen];omega) (by omega) (Nat.zero_le _) H hH ?_
 intro g cap w' k1 k2 k3 k4
 refine h g cap w' ?_ k2 k3 k4
 unfold IRow
 rw[List.length_append,List.map_append];exact k1
end
variable {g n cap p:Nat} {l:List Nat} {C vs:List Int} {fv:Value} {fl:List Value}
theorem IRow.at {W:World}(h:IRow W (.slice (some ⟨g,0,none⟩) n cap) l){i j:Nat}(hi:l[i]? = some j): W.cell? ⟨g,i,none⟩=some (.int .i64 (j:Nat)):=row1_at' h (by rw[List.getElem?_map,hi];rfl)
theorem IRow.len {W:World}{a:Option Addr}(h:IRow W (.slice a n cap) l): n=l.length:=by
 obtain⟨_,⟨h2,h3⟩ | ⟨g',cap',cur,hv,_⟩⟩:=h
 ·cases h2; exact h3.symm
 ·cases hv; rfl
theorem IRow.set {W:World}{g n cap:Nat}{l:List Nat}(h:IRow W (.slice (some ⟨g,0,none⟩) n cap) l)(i j:Nat): IRow (W.setCell ⟨g,i,none⟩ (.int .i64 (j:Nat))) (.slice (some ⟨g,0,none⟩) n cap) (l.set i j):=by
 have hn:=h.len
 subst hn
 have:=set1 i (.int .i64 (j:Nat)) h
 unfold IRow
 rw[List.length_set,List.map_set];exact this
theorem IRow.free {W:World}(h:IRow W (.slice (some ⟨g,0,none⟩) n cap) l)(i:Nat): W.frozen? ⟨g,i,none⟩=false:=by
 have hn:=h.len
 subst hn
 exact yG h i
theorem PM.rw {w1 wr:World}{bu k:Nat}{u:List Bool}(h:PM w1 bu k u wr)(hw:RW C w1 p fv fl vs)(hn:bu∉rB p fv fl): RW C wr p fv fl vs :=
 hw.kept fun b hb=>h.fr.block b (hw.blt b hb) (by simp; rintro rfl; exact hn hb)
theorem RW.rowAt {W:World}(h:RW C W p fv fl vs)(hfv:fv=.slice (some ⟨g,0,none⟩) n cap){i:Nat}{y:Int}(hi:vs[i]? = some y):
 ∃ a c,W.cell? ⟨g,i,none⟩=some (.slice a (form y).length c)∧∀ k t,(form y)[k]? = some t→∃ b,a=some ⟨b,0,none⟩∧W.cell? ⟨b,k*2,none⟩=some (.bool t.1)∧W.cell? ⟨b,k*2+1,none⟩=some (.int .i64 (vs.idxOf (t.2:Int):Nat)):=by
 obtain⟨g',cap',he,hrow⟩:=h.formAt
 rw[hfv] at he; cases he
 obtain⟨v,_,cv,hr⟩:=hrow i y hi
 obtain⟨a,c,rfl,hs⟩:=hr.get
 have hl:(pf vs y).length=(form y).length:=by simp[pf]
 rw[hl] at cv
 refine⟨a,c,cv,fun k t ht=>?_⟩
 exact hs k (t.1,vs.idxOf (t.2:Int)) (by unfold pf; rw[List.getElem?_map,ht];rfl)
theorem rParts_calls {W:World}(H:RW C W p fv fl vs){X:Nat}{x:Int}(hX:vs[X]? = some x):
 Calls Tryz.prog 76 #[.pointer (some ⟨p,0,none⟩),.int .i64 (X:Nat)] W fun e W'=>∃ v',e=.returned v'∧Hid (IRow W' v' (((Sr.parts x).map fun (q:Nat)=>vs.idxOf (q:Int))++[X]))∧Hid (Below W.heap.size W W'):=by
 have hwv:=jH H.wv
 have hvl:=H.vlen
 have HX:=jH hX
 have hXl:X<vs.length:=(jL hX).1
 have hXw:IntKind.i64.wrap ((X:Int)+1)=(X:Int)+1:=by rw[IntKind.wrap_i64];omega
 have X0:(0:Int)≤(X:Int):=by omega
 have X1:(X:Int)<(X:Int)+1:=by omega
 have hmk1:∀ w,(Instr.makeSlice 172 (.int .i64 ((X:Int)+1)) (.int .i64 ((X:Int)+1))).run Tryz.prog w=.ok (.slice (some ⟨w.heap.size,0,none⟩) (X+1) (X+1)) (w.alloc (.cells (madeCells #[.bool false] (X+1)) 4)):=fun w =>
  run_make_row' (P:=Tryz.prog) 172 4 (.bool false) 1 un172 info4 rfl .i64 .i64 (X+1) (by omega) (by omega) w
 have hrowM:=made_row (W:=W) 4 (.bool false) (X+1) (by simp only[maxLen];omega)
 have cM:(W.alloc (.cells (madeCells #[.bool false] (X+1)) 4)).cell? ⟨W.heap.size,X,none⟩=some (.bool false):=row1_at hrowM (by simp)
 have fM:=yG hrowM X
 have hrow1:=made_set (W:=W) 4 (.bool false) (.bool true) (X+1) X (by simp only[maxLen];omega)
 obtain⟨w1,bu,hw1,hbu,S0,HW1,HBl,HNb⟩:∃ w1 bu,W.alloc (.cells ((madeCells #[.bool false] (X+1)).setIfInBounds X (.bool true)) 4)=w1∧W.heap.size=bu∧Hid (PM w1 bu X ((List.replicate (X+1) false).set X true) w1)∧Hid (RW C w1 p fv fl vs)∧Hid (Below W.heap.size W w1)∧Hid (bu∉rB p fv fl) :=
  ⟨_,_,rfl,rfl,⟨Fr.refl _ _,by unfold URow; rw[List.map_set,List.map_replicate];exact hrow1⟩,H.alloc _,(Below.refl _ _).alloc (jR _) _,fun h=>by have:=H.blt _ h; omega⟩
 have M0:=jH (RMk.start (vs:=vs) (x:=x) (X:=X))
 obtain⟨g,cap,hfv,-⟩:=H.formAt
 subst hfv
 rw[hbu] at cM fM
 clear hrowM hrow1 H hX
 go_enter Tryz.func76,Tryz.ntmps76
 go_wp2_with fail
 clear hmk1 cM fM
 go_loopg [6] (X+1) (fun g1 vi wr=>∃ (r:Nat) (u:List Bool),vi=.int .i64 ((r:Int) - 1)∧r≤X+1∧r≤g1∧Hid (PM w1 bu X u wr)∧Hid (RMk vs x X r u))
 case atStart=>exact⟨X+1,_,by go_num,by omega,by omega,S0,M0⟩
 case round =>
  clear S0 M0
  obtain⟨r,u,rfl,hrk,hg,HS,HM⟩:=hrel
  by_cases hr:0<r
  ·obtain⟨i,rfl⟩:∃ i,r=i+1:=⟨r - 1,by omega⟩
   have hi:(((i+1:Nat):Int) - 1)=(i:Int):=by omega
   rw[hi]
   clear hi
   have i0:(0:Int)≤(i:Int):=Int.natCast_nonneg i
   have iz:(i:Int)<(vs.length:Int):=by omega
   have iz1:(i:Int)<(X:Int)+1:=by omega
   have hiw:IntKind.i64.wrap ((i:Int) - 1)=(i:Int) - 1:=IntWalk.i64_in _ (by omega)
   obtain⟨y,hy⟩:∃ y,vs[i]? = some y:=⟨_,jG (by omega)⟩
   have HY:=jH hy
   obtain⟨n,hn⟩:∃ n,n=(form y).length:=⟨_,rfl⟩
   have HN:=jH hn
   have hnl:n≤vs.length:=by rw[hn];have:=yz (vs:=vs) (x:=y) (fun e he=>hwv.out.mem_exps (jM hy) he);simpa [pf] using this
   clear hy hn
   go_wp2_with fail
   go_loopg [7] n (fun g2 vj wq=>∃ (m:Nat) (u2:List Bool),vj=.int .i64 m∧m≤n∧n - m≤g2∧Hid (PM w1 bu X u2 wq)∧Hid (RMkI vs x X i m u2))
   case atStart=>exact⟨0,u,rfl,by omega,by omega,HS,HM.out.inner⟩
   case round =>
    clear HS HM
    obtain⟨m,u2,rfl,hmn,hg2,HS2,HM2⟩:=hrel
    have m0:(0:Int)≤(m:Int):=Int.natCast_nonneg m
    have hmw:IntKind.i64.wrap ((m:Int)+1)=(m:Int)+1:=IntWalk.i64_in _ (by omega)
    have hw:=HS2.out.rw HW1.out HNb.out
    have c0:=hw.c0
    obtain⟨ra,rc,cr,hterm⟩:=hw.rowAt rfl HY.out
    rw[← HN.out] at cr
    obtain⟨bi,hbi⟩:∃ b,u2[i]? = some b:=⟨_,jG (by have:=HM2.out.mk'.len; omega)⟩
    have cbi:=HS2.out.row.at hbi
    cases bi with
    | false =>
      have HNx:Hid (RMk vs x X i u2):=HM2.out.next HY.out (fun h=>by rw[hbi] at h; cases h)
      clear hw hterm hbi HM2
      go_wp2_with fail
      go_roundg i
      case measure=>omega
      case rel=>exact⟨i,u2,by go_num,by omega,by omega,HS2,HNx⟩
    | true =>
      by_cases hm:m<n
      ·have hmz:(m:Int)<(n:Int):=by omega
       obtain⟨⟨s,e⟩,ht⟩:∃ t,(form y)[m]? = some t:=⟨_,jG (by rw[← HN.out];exact hm)⟩
       obtain⟨b,rfl,d0,d1⟩:=hterm m _ ht
       dsimp only at d0 d1
       have hee:(exps y)[m]? = some e:=by unfold exps; rw[List.getElem?_map,ht];rfl
       have HNx:=jH (HM2.out.step hwv.out HX.out HY.out hbi hee)
       obtain⟨k,hk,hke⟩:=hwv.out.closed i y HY.out e (jM hee)
       rw[hwv.out.idx_get hke] at d1 HNx
       obtain⟨bk,hbk⟩:∃ b,u2[k]? = some b:=⟨_,jG (by have:=HM2.out.mk'.len; omega)⟩
       have cbk:=HS2.out.row.at hbk
       have fbk:=yG HS2.out.row k
       have k0:(0:Int)≤(k:Int):=Int.natCast_nonneg k
       have kz:(k:Int)<(X:Int)+1:=by omega
       have HPM:=jH (HS2.out.set k true)
       clear hw hterm hbi hbk HM2 hee hke ht d0
       go_wp2_with fail
       go_roundg (n - (m+1))
       case measure=>omega
       case rel=>exact⟨m+1,_,by go_num,by omega,by omega,HPM,HNx⟩
      ·have hmz:¬ ((m:Int)<(n:Int)):=by omega
       have HNx:Hid (RMk vs x X i u2):=HM2.out.next HY.out (fun _=>by rw[js,← HN.out];omega)
       clear hw hterm hbi HM2
       go_wp2_with fail
       go_roundg i
       case measure=>omega
       case rel=>exact⟨i,u2,by go_num,by omega,by omega,HS2,HNx⟩
  ·obtain rfl:r=0:=by omega
   have hm1:¬ ((0:Int)≤((0:Nat):Int) - 1):=by omega
   obtain⟨wm,rfl⟩:∃ w,w=wr:=⟨_,rfl⟩
   have HWr:=jH (HS.out.rw HW1.out HNb.out)
   have HBr:Hid (Below W.heap.size W wm):=⟨HS.out.fr.os.trans HBl.out.os,HS.out.fr.tape.trans HBl.out.tape,HS.out.fr.output.trans HBl.out.output,Nat.le_trans HBl.out.size HS.out.fr.size,fun b hb=>(HS.out.fr.block b (Nat.lt_of_lt_of_le hb HBl.out.size) (by simp; omega)).trans (HBl.out.block b hb)⟩
   have HUr:=jH HS.out.row
   have HMf:=jH HM.out
   obtain⟨w2,o0,hw2,ho0,HB2,HO0⟩:∃ w2 o0,wm.alloc (.cells #[] 3)=w2∧wm.heap.size=o0∧Hid (Below wm.heap.size wm w2)∧Hid (IRow w2 (.slice (some ⟨o0,0,none⟩) 0 0) (marked u 0)) :=
    ⟨_,_,rfl,rfl,(Below.refl _ _).alloc (jR _) _,⟨rfl,.inr ⟨_,0,_,rfl,Nat.zero_le _,jD _ _,jR _,by decide,rfl,rfl⟩⟩⟩
   have HOo:Hid (wm.heap.size≤o0):=Nat.le_of_eq ho0
   clear HS HM hg hrk hr
   go_wp2_with fail
   clear hw2 ho0 hm1
   go_loopg [8,9] X (fun g2 vo vi wq=>∃ (k b n c:Nat),vo=.slice (some ⟨b,0,none⟩) n c∧vi=.int .i64 k∧k≤X∧X - k≤g2∧n≤k∧Hid (IRow wq (.slice (some ⟨b,0,none⟩) n c) (marked u k))∧Hid (wm.heap.size≤b)∧Hid (Below wm.heap.size wm wq))
   case atStart=>exact⟨0,o0,0,0,rfl,rfl,by omega,by omega,by omega,HO0,HOo,HB2⟩
   case round =>
    clear HO0 HOo HB2
    obtain⟨k,b,n,c,rfl,rfl,hkX,hg2,hnk,HO,HOb,HB⟩:=hrel
    have k0:(0:Int)≤(k:Int):=Int.natCast_nonneg k
    have hkw:IntKind.i64.wrap ((k:Int)+1)=(k:Int)+1:=IntWalk.i64_in _ (by omega)
    have HUq:Hid (URow wr bu (X+1) u):=jK HUr.out HB.out
    have hln:=HO.out.len
    by_cases hk:k<X
    ·have hkz:(k:Int)<(X:Int):=by omega
     have kz1:(k:Int)<(X:Int)+1:=by omega
     obtain⟨bk,hbk⟩:∃ b,u[k]? = some b:=⟨_,jG (by have:=HMf.out.len; omega)⟩
     have cbk:=HUq.out.at hbk
     cases bk with
     | false =>
       rw[← marked_no hbk] at HO
       clear hbk hln
       go_wp2_with fail
       go_roundg (X - (k+1))
       case measure=>omega
       case rel=>exact⟨k+1,b,n,c,rfl,by go_num,by omega,by omega,by omega,HO,HOb,HB⟩
     | true =>
       have hbn:n+1≤8000000000000:=by omega
       have hl1:(marked u k).length+1=n+1:=by rw[hln]
       have hmy:=jH (marked_yes hbk)
       clear hbk hln
       go_wp2_with (at_builtin; go_loud (refine app_I2 rfl _ _ rfl (.slice (some ⟨b,0,none⟩) n c) (marked u k) rfl (World.ownsRow.alloc HO.out _) _ k rfl (jD _ _) (n+1) hl1 hbn _ rfl ?_);intro b2 c2 w3 R3 G3 A3 L3)
       have HB3:Hid (Below wm.heap.size wm w3):=Below.trans (Below.trans HB.out ((Below.refl _ _).alloc HB.out.size (.cells #[.int .i64 (k:Nat)] 3))) (j9 G3 (fun b' hb'=>by cases hb'; exact HOb.out) (by have:=HB.out.size; simp; omega))
       have HO3:Hid (wm.heap.size≤b2):=by
        rcases A3 with h | h
        ·cases h; exact HOb.out
        ·show wm.heap.size≤b2
         rw[h];have:=HB.out.size; simp; omega
       have HR3:Hid (IRow w3 (.slice (some ⟨b2,0,none⟩) (n+1) c2) (marked u (k+1))):=by rw[hmy.out];exact R3
       clear R3 G3 A3 L3
       go_roundg (X - (k+1))
       case measure=>omega
       case rel=>exact⟨k+1,b2,n+1,c2,rfl,by go_num,by omega,by omega,by omega,HR3,HO3,HB3⟩
    ·obtain rfl:X=k:=by omega
     have HS1:Hid (Srt (zb vs) (marked u X) (marked u X) 1):=⟨List.Perm.refl _,by
      cases marked u X with
      | nil=>simp
      | cons a l=>simp⟩
     obtain⟨l0,hl0⟩:∃ l,l=marked u X:=⟨_,rfl⟩
     have HR0:Hid (IRow wr (.slice (some ⟨b,0,none⟩) n c) l0):=by rw[hl0];exact HO
     have HS2:Hid (Srt (zb vs) (marked u X) l0 1):=by rw[hl0];exact HS1
     clear HO HS1 hl0 hln HUq hk
     go_wp2_with fail
     go_loopg [10] n (fun g3 vi wr=>∃ (i:Nat) (l:List Nat),vi=.int .i64 i∧1≤i∧(i≤n∨i=1)∧n - i≤g3∧Hid (IRow wr (.slice (some ⟨b,0,none⟩) n c) l)∧Hid (Srt (zb vs) (marked u X) l i)∧Hid (Below wm.heap.size wm wr))
     case atStart=>exact⟨1,l0,rfl,by omega,by omega,by omega,HR0,HS2,HB⟩
     case round =>
      clear HR0 HS2 HB
      obtain⟨i,l,rfl,hi1,hin,hg3,HR,HSr,HB⟩:=hrel
      have i0:(0:Int)≤(i:Int):=Int.natCast_nonneg i
      have hiw:IntKind.i64.wrap ((i:Int)+1)=(i:Int)+1:=IntWalk.i64_in _ (by omega)
      have hln:=HR.out.len
      by_cases hi:i<n
      ·have hiz:(i:Int)<(n:Int):=by omega
       obtain⟨y0,hy0⟩:∃ y,l[i]? = some y:=⟨_,jG (by omega)⟩
       have HI0:=jH (HSr.out.inner hy0)
       have hl0:(l.take i).length=i:=by rw[List.length_take];omega
       clear hy0 HSr hin
       go_wp2_with fail
       go_loopg [11] i (fun g4 vj wr=>∃ (kk y:Nat) (A B R l:List Nat),vj=.int .i64 kk∧kk≤g4∧kk≤i∧Hid (A.length=kk)∧Hid (IRow wr (.slice (some ⟨b,0,none⟩) n c) l)∧Hid (Ins (zb vs) (marked u X) l i A y B R)∧Hid (Below wm.heap.size wm wr))
       case atStart=>exact⟨i,y0,_,_,_,l,rfl,by omega,by omega,hl0,HR,HI0,HB⟩
       case round =>
        clear HI0 HR HB hln hl0
        obtain⟨kk,y,A,B,R,l,rfl,hg4,hki,HA,HR,HI,HB⟩:=hrel
        have kk0:(0:Int)≤(kk:Int):=Int.natCast_nonneg kk
        by_cases hkk:0<kk
        ·obtain⟨A',z,hA'⟩:∃ A' z,A=A'++[z]:=by
          rcases List.eq_nil_or_concat A with h | ⟨L,z,h⟩
          ·rw[h] at HA; have:=HA.out; simp at this; omega
          ·exact⟨L,z,by rw[h,List.concat_eq_append]⟩
         subst hA'
         obtain⟨j,hj⟩:∃ j,j=A'.length:=⟨_,rfl⟩
         have hkj:kk=j+1:=by rw[← HA.out,hj];simp
         have hle:=HI.out.eq
         have hcz:l[j]? = some z:=by rw[hle,hj,List.append_assoc,List.getElem?_append_right (jR _),Nat.sub_self];rfl
         have hcy:l[kk]? = some y:=by rw[hle,hkj,List.getElem?_append_right (by simp[hj]),show j+1 - (A'++[z]).length=0 by simp[hj]];rfl
         have mem:∀ q∈l,∃ v,vs[q]? = some v:=fun q hq=>by
          have h:=(marked_mem.1 ((HI.out.perm.mem_iff).1 hq)).1
          exact⟨_,jG (by omega)⟩
         obtain⟨vz,hvz⟩:=mem z (jM hcz)
         obtain⟨vy,hvy⟩:=mem y (jM hcy)
         have cz:=HR.out.at hcz
         have cy:=HR.out.at hcy
         have hln:=HR.out.len
         have hkl:=(jL hcy).1
         have j0:(0:Int)≤(j:Int):=Int.natCast_nonneg j
         have jn:(j:Int)<(n:Int):=by omega
         have kn:(kk:Int)<(n:Int):=by omega
         have jw:IntKind.i64.wrap ((kk:Int) - 1)=(j:Int):=by rw[IntKind.wrap_i64];omega
         have kp:(0:Int)<(kk:Int):=by omega
         have hC:∀ N,Calls Tryz.prog 84 #[.pointer (some ⟨p,0,none⟩),.int .i64 (z:Nat),.int .i64 (y:Nat)] (wr.drewN N) fun e' W'=>e'=.returned (.int .i64 (isg (vz - vy)))∧∃ m,W'=(wr.drewN N).drewN m:=fun N=>yO (((HWr.out.below HB.out)).drewN N) hvz hvy
         by_cases hlt:vy<vz
         ·have HI2:=HI.out.swap (by rw[zE hvy,zE hvz];exact hlt)
          rw[← hj] at HI2
          rw[← hkj] at HI2
          have HI3:=jH HI2
          rw[zu (by omega)] at hC
          have fz:=HR.out.free j
          have fy:=HR.out.free kk
          have HJ:Hid (A'.length=j):=hj.symm
          have HR2:Hid (∀ M,IRow (((wr.drewN M).setCell ⟨b,j,none⟩ (.int .i64 (y:Nat))).setCell ⟨b,kk,none⟩ (.int .i64 (z:Nat))) (.slice (some ⟨b,0,none⟩) n c) ((l.set j y).set kk z)):=fun M=>(IRow.set (W:=wr.drewN M) (jK HR.out (jN _ _)) j y).set kk z
          have HB2:Hid (∀ M,Below wm.heap.size wm (((wr.drewN M).setCell ⟨b,j,none⟩ (.int .i64 (y:Nat))).setCell ⟨b,kk,none⟩ (.int .i64 (z:Nat)))):=fun M=>⟨HB.out.os,HB.out.tape,HB.out.output,by have:=HB.out.size; simpa using this,fun q hq=>(jS _ _ _ _ (by show q≠b; have:=HOb.out; omega)).trans ((jS _ _ _ _ (by show q≠b; have:=HOb.out; omega)).trans (HB.out.block q hq))⟩
          have hjk:j<kk:=by omega
          have hjl:j≤i:=by omega
          have hjg:j≤gk - 1:=by omega
          clear hle hcz hcy mem hvz hvy hln hkl HI2 HI HA hkj hj HR HB
          go_wp2_with fail
          go_quiet (first | (go_at_call 84; exact Calls.quiet_of (hC _)))
          go_wp2_with fail
          go_region
          go_wp2_with fail
          go_roundg (gk - 1)
          case measure=>omega
          case rel=>exact⟨j,y,A',z::B,R,_,rfl,hjg,hjl,HJ,HR2.out _,HI3,HB2.out _⟩
         ·have hne:vz≠vy:=fun h=>by
           have hzy:z=y:=(hwv.out.same hvz hvy).2 h
           have hnd:l.Nodup:=(HI.out.perm.nodup_iff).2 (marked_nodup u X)
           subst hzy
           obtain⟨k1,e1⟩:=jL hcz
           obtain⟨k2,e2⟩:=jL hcy
           have f1:=List.Nodup.idxOf_getElem hnd j k1
           have f2:=List.Nodup.idxOf_getElem hnd kk k2
           rw[e1] at f1; rw[e2] at f2
           omega
          have HS3:=jH (HI.out.stop (.inr ⟨A',z,rfl,by rw[zE hvy,zE hvz];omega⟩))
          rw[za (by omega)] at hC
          have HB3:Hid (∀ M,Below wm.heap.size wm (wr.drewN M)):=fun M=>⟨HB.out.os,HB.out.tape,HB.out.output,HB.out.size,HB.out.block⟩
          have HR3:Hid (∀ M,IRow (wr.drewN M) (.slice (some ⟨b,0,none⟩) n c) l):=fun M=>HR.out
          clear hle hcz hcy mem hvz hvy hln hkl HI HA hkj hj HR HB
          go_wp2_with fail
          go_quiet (first | (go_at_call 84; exact Calls.quiet_of (hC _)))
          go_wp2_with fail
          go_roundg (n - (i+1))
          case measure=>omega
          case rel=>exact⟨i+1,l,by go_num,by omega,by omega,by omega,HR3.out _,HS3,HB3.out _⟩
        ·obtain rfl:kk=0:=by omega
         have HS3:=jH (HI.out.stop (.inl (List.length_eq_zero_iff.1 HA.out)))
         have HB3:Hid (∀ M,Below wm.heap.size wm (wr.drewN M)):=fun M=>⟨HB.out.os,HB.out.tape,HB.out.output,HB.out.size,HB.out.block⟩
         have HR3:Hid (∀ M,IRow (wr.drewN M) (.slice (some ⟨b,0,none⟩) n c) l):=fun M=>HR.out
         clear HI HA HR HB
         go_wp2_with fail
         go_quiet (fail)
         go_wp2_with fail
         go_roundg (n - (i+1))
         case measure=>omega
         case rel=>exact⟨i+1,l,by go_num,by omega,by omega,by omega,HR3.out _,HS3,HB3.out _⟩
      ·have hS9:Srt (zb vs) (marked u X) l l.length:=⟨HSr.out.perm,by rw[List.take_length];have:=HSr.out.srt; rwa [List.take_of_length_le (by omega)] at this⟩
       have hfin:=parts_srt hwv.out HX.out HMf.out hS9
       have hl1:l.length+1=n+1:=by rw[hln]
       have hbn:n+1≤8000000000000:=by omega
       have HFin:=jH hfin
       clear hS9 hfin hln
       go_wp2_with (at_builtin; go_loud (refine app_I2 rfl _ _ rfl (.slice (some ⟨b,0,none⟩) n c) l rfl (World.ownsRow.alloc HR.out _) _ X rfl (jD _ _) (n+1) hl1 hbn _ rfl ?_);intro b2 c2 w3 R3 G3 A3 L3)
       go_ret
       refine⟨_,rfl,?_,?_⟩
       ·rw[← HFin.out];exact R3
       ·exact Below.trans' HBr.out (Below.trans (Below.trans HB.out ((Below.refl _ _).alloc HB.out.size (.cells #[.int .i64 (X:Nat)] 3))) (j9 G3 (fun b' hb'=>by cases hb'; exact HOb.out) (by have:=HB.out.size; simp; omega)))
end
end Sr
