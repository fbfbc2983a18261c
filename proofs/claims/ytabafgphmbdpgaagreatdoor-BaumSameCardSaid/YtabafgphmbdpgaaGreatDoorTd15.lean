/- Texts of this claim, joined: RAdd, RNeg, Sh. -/
import Derived.Test.YtabafgphmbdpgaaGreatDoorTd1
import Derived.Test.YtabafgphmbdpgaaGreatDoorTd14
set_option maxHeartbeats 8000000
set_option maxRecDepth 100000
namespace Sr
open Go Go.Proofs Go.RowKit Go.Maps Go.WideMaps
theorem lv_forms (x y:Int): lv (form x++form y)=x+y:=by rw[qI,jc,jc]
theorem rAdd_calls {C:List Int}{W:World}{p:Nat}{fv:Value}{fl:List Value}{vs:List Int}(H:RW C W p fv fl vs){i j:Nat}{x y:Int}(hi:vs[i]? = some x)(hj:vs[j]? = some y){n m a b:Nat}(hx:Sz n a b x)(hy:Sz m a b y)(hnm:n+m≤2600)(ha:a≤1286)(hb:14≤b) 
 (hC:∀ z∈sumAsk 0 (form x++form y),z∈C):Calls Tryz.prog 83 #[.pointer (some ⟨p,0,none⟩),.int .i64 (i:Nat),.int .i64 (j:Nat)] W (RNumQ C W p fv fl vs (x+y)):=by
 have c0:=H.c0
 have HH:=jH H
 have hxm:∀ e∈exps x,(e:Int)∈vs:=fun e he=>H.wv.mem_exps (jM hi) he
 have hym:∀ e∈exps y,(e:Int)∈vs:=fun e he=>H.wv.mem_exps (jM hj) he
 obtain⟨g,cap,rfl,hrow⟩:=H.formAt
 obtain⟨va,_,cva,ra⟩:=hrow i x hi
 obtain⟨vb,_,cvb,rb⟩:=hrow j y hj
 have hil:i<vs.length:=(jL hi).1
 have hjl:j<vs.length:=(jL hj).1
 have i0:(0:Int)≤(i:Int):=by omega
 have j0:(0:Int)≤(j:Int):=by omega
 have iz:(i:Int)<(vs.length:Int):=by omega
 have jz:(j:Int)<(vs.length:Int):=by omega
 have la:(pf vs x).length=(form x).length:=by simp[pf]
 have lb:(pf vs y).length=(form y).length:=by simp[pf]
 have hla:(pf vs x).length≤8000000000000:=by have:=hx.len; omega
 have hlab:(pf vs x).length+(pf vs y).length≤8000000000000:=by have:=hx.len; have:=hy.len; omega
 have Ra:=jH ra
 have Rb:=jH rb
 have HS:=jH (fun (W1:World) (h:Below W.heap.size W W1) (v:Value) (hr:RRow W1 v (plt vs (form x++form y)))=>rSum_calls (C:=C) (H.below h) (ts:=form x++form y)
  (fun t ht=>by rcases List.mem_append.1 ht with h | h; exact hxm _ (Sr.mem_exps h);exact hym _ (Sr.mem_exps h)) hr (a:=a) (b:=b) (by rw[List.length_append];have:=hx.len; have:=hy.len; omega) ha hb
  (fun t ht=>by
    rcases List.mem_append.1 ht with h | h
    ·exact⟨hx.ex _ (Sr.mem_exps h),hx.ex2 _ (Sr.mem_exps h)⟩
    ·exact⟨hy.ex _ (Sr.mem_exps h),hy.ex2 _ (Sr.mem_exps h)⟩) hC)
 rw[lv_forms] at HS
 have hpl:pf vs x++pf vs y=plt vs (form x++form y):=by unfold plt pf; rw[List.map_append]
 have hgl:g<W.heap.size:=jP H.forms rfl
 have hpl2:=H.lt
 have HK:Hid (∀ w',Below W.heap.size W w'→w'.cell? ⟨p,0,none⟩=some (.slice (some ⟨g,0,none⟩) vs.length cap)∧w'.cell? ⟨g,i,none⟩=some va∧w'.cell? ⟨g,j,none⟩=some vb):=fun w' h=>⟨qn h c0,qn h cva,qn h cvb⟩
 have k0:=fun o=>(HK.out _ ((Below.refl _ _).alloc (jR _) o)).1
 have k1:=fun o=>(HK.out _ ((Below.refl _ _).alloc (jR _) o)).2.1
 have k2:=fun o=>(HK.out _ ((Below.refl _ _).alloc (jR _) o)).2.2
 clear H hrow ra rb hi hj hx hy hxm hym hC la lb hil hjl
 go_enter Tryz.func83,Tryz.ntmps83
 go_wp2_with fail
 go_region_law (first
  | (refine zj rfl (.tmp 8) (.tmp 15) rfl (.slice (some ⟨_,0,none⟩) 0 0) [] rfl (RRow.nil (jD W _)) qO _ (pf vs x) rfl (Ra.out.src.below (yD W _)) _ (Nat.zero_add _) _ rfl hla _ rfl ?_; intro g1 c1 w1 R1 G1 A1 L1
     have B1:Hid (Below W.heap.size W w1):=Below.trans (yD W _) (j9 G1 (fun b hb=>by cases hb; exact jR _) (by simp))
     have O1:Hid (W.heap.size≤g1):=by
      rcases A1 with h | h
      ·cases h; show W.heap.size≤_; exact jR _
      ·show W.heap.size≤g1
       rw[h];simp
     obtain⟨kw0,kw1,kw2⟩:=HK.out _ B1.out
     have R1':=jH R1
     clear R1 G1 A1 L1)
  | (refine zj rfl (.tmp 16) (.tmp 23) rfl (.slice (some ⟨g1,0,none⟩) (pf vs x).length c1) (pf vs x) rfl R1'.out qO _ (pf vs y) rfl (Rb.out.src.below B1.out) _ rfl _ hpl hlab _ rfl ?_; intro g2 c2 w2 R2 G2 A2 L2
     have B2:Hid (Below W.heap.size W w2):=Below.trans B1.out (j9 G2 (fun b hb=>by cases hb; exact O1.out) B1.out.size)
     have hcS:=HS.out w2 B2.out _ R2
     clear G2 A2 L2)
  | (go_simp; go_at_call 122; refine hcS.mono ?_; rintro y w3 ⟨i3,fv3,fl3,vs3,rfl,hp3,hi3⟩))
 all_goals
  go_wp2_with fail
  go_ret
  exact⟨i3,fv3,fl3,vs3,rfl,hp3.out.pre B2.out,hi3⟩
def flipP (t:PT): PT:=(!t.1,t.2)
theorem pf_neg (vs:List Int)(x:Int): pf vs (-x)=(pf vs x).map flipP:=by
 unfold pf; rw[yh,List.map_map,List.map_map];rfl
theorem rNeg_calls {C:List Int}{W:World}{p:Nat}{fv:Value}{fl:List Value}{vs:List Int}(H:RW C W p fv fl vs){i:Nat}{x:Int}(hi:vs[i]? = some x)(hC:-x∈C): Calls Tryz.prog 72 #[.pointer (some ⟨p,0,none⟩),.int .i64 (i:Nat)] W (RNumQ C W p fv fl vs (-x)):=by
 have c0:=H.c0
 have HH:=jH H
 have hxm:∀ e∈exps x,(e:Int)∈vs:=fun e he=>H.wv.mem_exps (jM hi) he
 obtain⟨g,cap,rfl,hrow⟩:=H.formAt
 obtain⟨va,_,cva,ra⟩:=hrow i x hi
 have hil:i<vs.length:=(jL hi).1
 have i0:(0:Int)≤(i:Int):=by omega
 have iz:(i:Int)<(vs.length:Int):=by omega
 have hla:=Nat.le_trans (yz hxm) H.vlen
 have Ra:=jH ra
 have Hxm:=jH hxm
 have hpn:=pf_neg vs x
 obtain⟨l,hl⟩:∃ l,l=pf vs x:=⟨_,rfl⟩
 obtain⟨n,hn⟩:∃ n,n=l.length:=⟨_,rfl⟩
 rw[← hl] at Ra hla hpn
 rw[← hn] at hla
 have HN:=jH hn
 have Hpn:=jH hpn
 have hbn:n≤8000000000000:=by omega
 have HC:=jH hC
 have k0:=fun o=>qn (W:=W) ((Below.refl _ _).alloc (jR _) o) c0
 have k1:=fun o=>qn (W:=W) ((Below.refl _ _).alloc (jR _) o) cva
 clear H hrow ra hi hxm hil hl hn hpn hC
 go_enter Tryz.func72,Tryz.ntmps72
 go_wp2_with (at_builtin; go_loud (refine app_R rfl _ _ rfl (.slice (some ⟨W.heap.size,0,none⟩) 0 0) [] rfl (RRow.nil (jD W _)) qO _ l rfl (Ra.out.src.below ((Below.refl _ _).alloc (jR _) _)) n ((Nat.zero_add _).trans HN.out.symm) l rfl hbn _ rfl ?_);intro g1 c1 w1 R1 G1 A1 L1)
 have B1:Hid (Below W.heap.size W w1):=Below.trans ((Below.refl W.heap.size W).alloc (jR _) (.cells #[] 139)) (j9 G1 (fun b hb=>by cases hb; exact jR _) (by simp))
 have O1:W.heap.size≤g1:=by
  rcases A1 with h | h
  ·cases h; exact jR _
  ·rw[h];simp
 have HNo:Hid (g1∉rB p (.slice (some ⟨g,0,none⟩) vs.length cap) fl):=fun hm=>by have:=HH.out.blt g1 hm; omega
 have R1':Hid (w1.ownsRow 0 139 2 (.slice (some ⟨g1,0,none⟩) n c1) n (tcells ((l.take 0).map flipP++l.drop 0))):=by show World.ownsRow _ _ _ _ _ _ _; have h:=R1; unfold RRow at h; rw[← HN.out] at h; exact h
 have HO1:=jH O1
 clear R1 G1 A1 L1 O1 k0 k1
 go_loopg [6] n (fun g2 vi wr=>∃ k:Nat,vi=.int .i64 k∧k≤n∧n - k≤g2∧Hid (wr.ownsRow 0 139 2 (.slice (some ⟨g1,0,none⟩) n c1) n (tcells ((l.take k).map flipP++l.drop k)))∧Hid (Below W.heap.size W wr))
 case atStart=>exact⟨0,rfl,by omega,by omega,R1',B1⟩
 case round =>
  clear R1' B1
  obtain⟨k,rfl,hkn,hg,HK,HB⟩:=hrel
  have hk0:(0:Int)≤(k:Int):=Int.natCast_nonneg k
  have hkw:IntKind.i64.wrap ((k:Int)+1)=(k:Int)+1:=IntWalk.i64_in _ (by omega)
  by_cases hk:k<n
  ·have hkz:(k:Int)<(n:Int):=by omega
   obtain⟨⟨s,d⟩,ht⟩:∃ t,l[k]? = some t:=⟨_,jG (by rw[← HN.out];exact hk)⟩
   have e2:((l.take k).map flipP).length=k:=by rw[List.length_map,List.length_take,← HN.out];omega
   have hlk:((l.take k).map flipP++l.drop k)[k]? = some (s,d):=by
    rw[List.getElem?_append_right (by omega),e2,Nat.sub_self,List.getElem?_drop,Nat.add_zero,ht]
   have hll:((l.take k).map flipP++l.drop k).length=n:=by rw[List.length_append,e2,List.length_drop,← HN.out];omega
   have hrr:RRow wr (.slice (some ⟨g1,0,none⟩) n c1) ((l.take k).map flipP++l.drop k):=by unfold RRow; rw[hll];exact HK.out
   obtain⟨_,_,he,hcell⟩:=hrr.get
   rw[hll] at he
   cases he
   obtain⟨g',hg',c0',c1'⟩:=hcell k _ hlk
   cases hg'
   dsimp only at c0'
   have hfr:=rfree hrr (k*2)
   have HS:=jH (setSg (!s) hlk HK.out)
   have hnx:((l.take k).map flipP++l.drop k).set k (!s,d)=(l.take (k+1)).map flipP++l.drop (k+1):=by
    rw[j8 ht,zy ht,List.map_append,List.append_assoc,List.set_append_right _ _ (by omega),e2,Nat.sub_self]
    simp[flipP]
   rw[hnx] at HS
   have HB2:Hid (Below W.heap.size W (wr.setCell ⟨g1,k*2,none⟩ (.bool (!s)))):=⟨HB.out.os,HB.out.tape,HB.out.output,by have:=HB.out.size; simpa using this,fun b hb=>(jS _ _ _ _ (show b≠g1 by have:=HO1.out; omega)).trans (HB.out.block b hb)⟩
   clear hnx hrr hcell c1' hlk hll e2 ht HK HB
   go_wp2_with fail
   go_roundg (n - (k+1))
   case measure=>omega
   case rel=>exact⟨k+1,by go_num,by omega,by omega,HS,HB2⟩
  ·obtain rfl:n=k:=by omega
   have hrr:RRow wr (.slice (some ⟨g1,0,none⟩) n c1) (pf vs (-x)):=by
    have h:=HK.out
    rw[List.take_of_length_le (by rw[← HN.out];omega),List.drop_eq_nil_of_le (by rw[← HN.out];omega),List.append_nil,← Hpn.out] at h
    have e1:(pf vs (-x)).length=n:=by rw[Hpn.out,List.length_map,← HN.out]
    unfold RRow; rw[e1];exact h
   have hA:=yk (HH.out.below HB.out) (x:=-x) (by rw[exps_neg];exact Hxm.out) hrr (.inl HC.out)
   clear hrr HK
   go_wp2_with fail
   refine hA.mono ?_
   rintro y w2 ⟨fv2,fl2,rfl,hp2⟩
   go_wp2_with fail
   go_ret
   exact⟨_,fv2,fl2,_,rfl,hp2.out.pre HB.out,jU (qt _ _)⟩
theorem rSub_calls {C:List Int}{W:World}{p:Nat}{fv:Value}{fl:List Value}{vs:List Int}(H:RW C W p fv fl vs){i j:Nat}{x y:Int}(hi:vs[i]? = some x)(hj:vs[j]? = some y){n m a b:Nat}(hx:Sz n a b x)(hy:Sz m a b y)(hnm:n+m≤2600)(ha:a≤1286)(hb:14≤b) 
 (hC:∀ z∈-y::sumAsk 0 (form x++form (-y)),z∈C):Calls Tryz.prog 85 #[.pointer (some ⟨p,0,none⟩),.int .i64 (i:Nat),.int .i64 (j:Nat)] W (RNumQ C W p fv fl vs (x - y)):=by
 have hN:=rNeg_calls H hj (hC _ (by simp))
 have HA:=jH (fun (W1:World) (fv1:Value) (fl1:List Value) (vs1:List Int) (h:RW C W1 p fv1 fl1 vs1) (j1:Nat) (hi1:vs1[i]? = some x) (hj1:vs1[j1]? = some (-y))=>rAdd_calls h hi1 hj1 hx hy.neg hnm ha hb (fun z hz=>hC z (by simp[hz])))
 have HI:=jH hi
 clear H hi hj hx hy hC
 go_enter Tryz.func85,Tryz.ntmps85
 go_wp2_with fail
 refine hN.mono ?_
 rintro e w1 ⟨j1,fv1,fl1,vs1,rfl,hp1,hj1⟩
 have hA:=HA.out w1 fv1 fl1 vs1 hp1.out.rw j1 (jW hp1.out.ext HI.out) hj1.out
 clear hN
 go_wp2_with fail
 refine hA.mono ?_
 rintro e w2 ⟨j2,fv2,fl2,vs2,rfl,hp2,hj2⟩
 go_wp2_with fail
 go_ret
 exact⟨j2,fv2,fl2,vs2,rfl,hp1.out.trans hp2.out,by rw[show x - y=x+-y by omega];exact hj2⟩
end Sr
namespace Sr
section
def shl (x y:Int): List Tm:=(form x).map fun t=>(t.1,((t.2:Int)+y).toNat)
def shx (x y:Int): Int:=lv (shl x y)
def shOK (x y:Int): Prop:=∀ e∈exps x,0≤(e:Int)+y
variable {x y:Int}
theorem shl_naf (h:shOK x y): Naf (shl x y):=by
 unfold Naf shl
 rw[List.pairwise_map]
 refine (jb x).imp_of_mem fun {a b} ha hb hab=>?_
 have h1:=h a.2 (mem_exps ha)
 have h2:=h b.2 (mem_exps hb)
 show ((b.2:Int)+y).toNat+1<((a.2:Int)+y).toNat
 omega
theorem yP (h:shOK x y): form (shx x y)=shl x y:=zS (shl_naf h) rfl
theorem exps_shx (h:shOK x y): exps (shx x y)=(exps x).map fun (e:Nat)=>((e:Int)+y).toNat:=by
 unfold exps; rw[yP h,shl,List.map_map,List.map_map];rfl
theorem shx_nat (x:Int)(k:Nat): shx x k=x*2 ^ k:=by
 have key:∀ l:List Tm,lv (l.map fun t=>(t.1,((t.2:Int)+(k:Int)).toNat))=lv l*2 ^ k:=by
  intro l
  induction l with
  | nil=>simp[lv]
  | cons t l ih =>
    obtain⟨s,e⟩:=t
    simp only[List.map_cons,lv,ih,Int.add_mul]
    congr 1
    have:((e:Int)+(k:Int)).toNat=e+k:=by omega
    rw[this]
    cases s <;>simp[tv,Int.pow_add,Int.neg_mul]
 unfold shx shl
 rw[key,jc]
theorem shx_back (h:shOK x y): shx (shx x y) (-y)=x:=by
 have hf:=yP h
 unfold shx
 have:shl (lv (shl x y)) (-y)=form x:=by
  unfold shl at *
  have hf':form (lv ((form x).map fun t=>(t.1,((t.2:Int)+y).toNat)))=(form x).map fun t=>(t.1,((t.2:Int)+y).toNat):=hf
  rw[hf',List.map_map]
  conv=>rhs; rw[← List.map_id (form x)]
  refine List.map_congr_left fun t ht=>?_
  have:=h t.2 (mem_exps ht)
  obtain⟨s,e⟩:=t
  simp only[Function.comp,id,Prod.mk.injEq,true_and]
  dsimp only at this
  omega
 rw[this,jc]
theorem shx_neg {k:Nat}(h:shOK x (-(k:Int))): shx x (-(k:Int))*2 ^ k=x:=by
 have:=shx_back h
 rw[Int.neg_neg,shx_nat] at this
 exact this
end
end Sr
