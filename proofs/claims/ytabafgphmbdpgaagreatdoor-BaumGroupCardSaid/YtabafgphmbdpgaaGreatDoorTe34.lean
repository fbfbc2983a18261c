/- Texts of this claim, joined: RSum, RAdd. -/
import Derived.Test.YtabafgphmbdpgaaGreatDoorTe1
import Derived.Test.YtabafgphmbdpgaaGreatDoorTe33
set_option maxHeartbeats 8000000
set_option maxRecDepth 100000
namespace Sr
open Go Go.Proofs Go.RowKit Go.Maps Go.WideMaps
section
def RNumQ (C:List Int)(W:World)(p:Nat)(fv:Value)(fl:List Value)(vs:List Int)(z:Int)(e:Ending)(W':World): Prop :=
 ∃ (i:Nat) (fv':Value) (fl':List Value) (vs':List Int),e=.returned (.int .i64 (i:Nat))∧Hid (RPut C W W' p fv fv' fl fl' vs vs')∧Hid (vs'[i]? = some z)
theorem RNumQ.pre {C:List Int}{W0 W W':World}{p:Nat}{fv:Value}{fl:List Value}{vs:List Int}{z:Int}{e:Ending}(h0:Below W0.heap.size W0 W)(h:RNumQ C W p fv fl vs z e W'): RNumQ C W0 p fv fl vs z e W':=by
 obtain⟨i,fv',fl',vs',h1,h2,h3⟩:=h
 exact⟨i,fv',fl',vs',h1,h2.out.pre h0,h3⟩
def plt (vs:List Int)(ts:List Tm): List PT:=ts.map (fun t=>(t.1,vs.idxOf (t.2:Int)))
variable {vs:List Int}
theorem plt_ext {vs':List Int}(hp:vs <+: vs'){ts:List Tm}(h:∀ t∈ts,(t.2:Int)∈vs): plt vs' ts=plt vs ts:=by
 unfold plt
 exact List.map_congr_left fun t ht=>by rw[zV hp (h t ht)]
theorem rSum_calls {C:List Int}{W:World}{p:Nat}{fv:Value}{fl:List Value}(H:RW C W p fv fl vs){ts:List Tm}(hp:∀ t∈ts,(t.2:Int)∈vs){v:Value}(hr:RRow W v (plt vs ts)){a b:Nat}(hl:ts.length≤2600)(ha:a≤1286)(hb:14≤b) 
 (hs:∀ t∈ts,(form (t.2:Int)).length≤a∧∀ f∈exps (t.2:Int),(form (f:Int)).length≤b) (hC:∀ z∈sumAsk 0 ts,z∈C) :
 Calls Tryz.prog 122 #[.pointer (some ⟨p,0,none⟩),v] W (RNumQ C W p fv fl vs (lv ts)):=by
 have HH:=jH H
 have Hp:=jH hp
 have HR:=jH hr
 have Hs:=jH hs
 have HC:=jH hC
 obtain⟨va,vc,rfl,hcell⟩:=hr.get
 have hpl:(plt vs ts).length=ts.length:=by simp[plt]
 obtain⟨n,hn⟩:∃ n,n=ts.length:=⟨_,rfl⟩
 rw[hpl,← hn] at HR
 rw[hpl,← hn]
 rw[← hn] at hl
 have HN:=jH hn
 clear H hp hr hs hC hcell hpl hn
 obtain⟨W0,o0,hW0,ho0,HB0,HE0⟩:∃ W0 o0,W.alloc (.cells #[] 139)=W0∧W.heap.size=o0∧Hid (Below W.heap.size W W0)∧Hid (RRow W0 (.slice (some ⟨o0,0,none⟩) 0 0) []):=⟨_,_,rfl,rfl,(Below.refl _ _).alloc (jR _) _,RRow.nil (jD _ _)⟩
 have HW0:Hid (RPut C W W0 p fv fv fl fl vs vs):=(RPut.refl HH.out).post HB0.out
 go_enter Tryz.func122,Tryz.ntmps122
 go_wp2_with fail
 go_loopg [5,6] n (fun g1 vo vi wr=>∃ (k:Nat) (ov fv1:Value) (fl1:List Value) (vs1:List Int),vo=ov∧vi=.int .i64 k∧k≤n∧n - k≤g1∧Hid (RPut C W wr p fv fv1 fl fl1 vs vs1)∧Hid (∀ j∈exps (lv (ts.take k)),(j:Int)∈vs1)∧Hid (RRow wr ov (pf vs1 (lv (ts.take k))))∧Hid (Sz k (a+14) b (lv (ts.take k))))
 case atStart =>
  refine⟨0,_,fv,fl,vs,rfl,rfl,by omega,by omega,HW0,?_,?_,Sz.zero _ _ _⟩
  ·show ∀ j∈exps 0,_
   simp[exps,j5]
  ·show RRow _ _ (pf vs 0)
   have:pf vs 0=[]:=by simp[pf,j5]
   rw[this];exact HE0.out
 case round =>
  clear HW0 HE0 hW0 ho0 HB0
  obtain⟨k,ov,fv1,fl1,vs1,rfl,rfl,hkn,hg,HP,HX,HO,HZ⟩:=hrel
  have hk0:(0:Int)≤(k:Int):=Int.natCast_nonneg k
  have hkw:IntKind.i64.wrap ((k:Int)+1)=(k:Int)+1:=IntWalk.i64_in _ (by omega)
  by_cases hk:k<n
  ·have hkz:(k:Int)<(n:Int):=by omega
   obtain⟨⟨s,e⟩,ht⟩:∃ t,ts[k]? = some t:=⟨_,jG (by rw[← HN.out];exact hk)⟩
   have hm:=jM ht
   have HR1:=HR.out.fr HH.out HP.out.fr
   obtain⟨a',c',he',hcell⟩:=HR1.get
   have e1:(plt vs ts).length=n:=by rw[HN.out];simp[plt]
   rw[e1] at he'
   cases he'
   have hti:(plt vs ts)[k]? = some (s,vs.idxOf (e:Int)):=by unfold plt; rw[List.getElem?_map,ht];rfl
   obtain⟨g,rfl,c0,c1⟩:=hcell k _ hti
   dsimp only at c0 c1
   have hie:vs1[vs.idxOf (e:Int)]? = some (e:Int):=jW HP.out.ext (jU (Hp.out _ hm))
   obtain⟨hs1,hs2⟩:=Hs.out _ hm
   dsimp only at hs1 hs2
   have htk:lv (ts.take (k+1))=lv (ts.take k)+tv (s,e):=by rw[j8 ht,qI];simp[lv]
   have hdr:ts.drop k=(s,e)::ts.drop (k+1):=by
    obtain⟨h3,h4⟩:=jL ht
    rw[← h4,← List.drop_eq_getElem_cons h3]
   have hCk:∀ z∈asks (lv (ts.take k)) e,z∈C:=fun z hz=>HC.out z (sumAsk_drop k ts 0 z (by rw[Int.zero_add,hdr,sumAsk];exact List.mem_append.2 (.inl hz)))
   have HPl:RPlus C (lv (ts.take k)) s e:=rplus fun j hj=>⟨.inl (hCk _ hj.mem),by have:=hj.lens (a:=a) (b:=b) HZ.out (by omega) hs1; omega⟩
   have hcP:=HPl _ p fv1 fl1 vs1 _ _ HP.out.rw HX.out HO.out hie
   have HZ1:Hid (Sz (k+1) (a+14) b (lv (ts.take (k+1)))):=by show Sz _ _ _ _; rw[htk];exact HZ.out.plus (by omega) hs1 (by omega) hs2 hb
   rw[← htk] at hcP
   clear HPl hCk hdr htk hs1 hs2 hie hti e1 hcell HR1 hm ht HX HO HZ
   go_wp2_with fail
   refine hcP.mono ?_
   rintro y w2 ⟨v2,fv2,fl2,vs2,rfl,hp2,hx2,hr2⟩
   have HP2:=jH (HP.out.trans hp2.out)
   clear hcP
   go_wp2_with fail
   go_roundg (n - (k+1))
   case measure=>omega
   case rel=>exact⟨k+1,_,fv2,fl2,vs2,rfl,by go_num,by omega,by omega,HP2,hx2,hr2,HZ1⟩
  ·obtain rfl:n=k:=by omega
   have htk:ts.take n=ts:=List.take_of_length_le (by rw[← HN.out];omega)
   rw[htk] at HX HO
   have hA:=yk HP.out.rw HX.out HO.out (.inl (HC.out _ (by have:=sumAsk_end ts 0; rwa [Int.zero_add] at this)))
   clear HX HO HZ htk
   go_wp2_with fail
   refine hA.mono ?_
   rintro y w2 ⟨fv2,fl2,rfl,hp2⟩
   go_wp2_with fail
   go_ret
   exact⟨_,fv2,fl2,_,rfl,HP.out.trans hp2.out,jU (qt _ _)⟩
end
theorem lv_forms (x y:Int): lv (form x++form y)=x+y:=by rw[qI,jc,jc]
theorem rAdd_calls {C:List Int}{W:World}{p:Nat}{fv:Value}{fl:List Value}{vs:List Int}(H:RW C W p fv fl vs){i j:Nat}{x y:Int}(hi:vs[i]? = some x)(hj:vs[j]? = some y){n m a b:Nat}(hx:Sz n a b x)(hy:Sz m a b y)(hnm:n+m≤2600)(ha:a≤1286)(hb:14≤b) 
 (hC:∀ z∈sumAsk 0 (form x++form y),z∈C):Calls Tryz.prog 83 #[.pointer (some ⟨p,0,none⟩),.int .i64 (i:Nat),.int .i64 (j:Nat)] W (RNumQ C W p fv fl vs (x+y)):=by
 have c0:=H.c0
 have HH:=jH H
 have hxm:∀ e∈exps x,(e:Int)∈vs:=fun e he=>H.wv.mem_exps (jM hi) he
 have hym:∀ e∈exps y,(e:Int)∈vs:=fun e he=>H.wv.mem_exps (jM hj) he
 obtain⟨g,cap,rfl,hrow⟩:=H.formAt
 obtain⟨va,_,cva,ra⟩:=hrow i x hi
 obtain⟨vb,_,cvb,rb⟩:=hrow j y hj
 have hil:i<vs.length:=(jL hi).1
 have hjl:j<vs.length:=(jL hj).1
 have i0:(0:Int)≤(i:Int):=by omega
 have j0:(0:Int)≤(j:Int):=by omega
 have iz:(i:Int)<(vs.length:Int):=by omega
 have jz:(j:Int)<(vs.length:Int):=by omega
 have la:(pf vs x).length=(form x).length:=by simp[pf]
 have lb:(pf vs y).length=(form y).length:=by simp[pf]
 have hla:(pf vs x).length≤8000000000000:=by have:=hx.len; omega
 have hlab:(pf vs x).length+(pf vs y).length≤8000000000000:=by have:=hx.len; have:=hy.len; omega
 have Ra:=jH ra
 have Rb:=jH rb
 have HS:=jH (fun (W1:World) (h:Below W.heap.size W W1) (v:Value) (hr:RRow W1 v (plt vs (form x++form y)))=>rSum_calls (C:=C) (H.below h) (ts:=form x++form y)
  (fun t ht=>by rcases List.mem_append.1 ht with h | h; exact hxm _ (Sr.mem_exps h);exact hym _ (Sr.mem_exps h)) hr (a:=a) (b:=b) (by rw[List.length_append];have:=hx.len; have:=hy.len; omega) ha hb
  (fun t ht=>by
    rcases List.mem_append.1 ht with h | h
    ·exact⟨hx.ex _ (Sr.mem_exps h),hx.ex2 _ (Sr.mem_exps h)⟩
    ·exact⟨hy.ex _ (Sr.mem_exps h),hy.ex2 _ (Sr.mem_exps h)⟩) hC)
 rw[lv_forms] at HS
 have hpl:pf vs x++pf vs y=plt vs (form x++form y):=by unfold plt pf; rw[List.map_append]
 have hgl:g<W.heap.size:=jP H.forms rfl
 have hpl2:=H.lt
 have HK:Hid (∀ w',Below W.heap.size W w'→w'.cell? ⟨p,0,none⟩=some (.slice (some ⟨g,0,none⟩) vs.length cap)∧w'.cell? ⟨g,i,none⟩=some va∧w'.cell? ⟨g,j,none⟩=some vb):=fun w' h=>⟨qn h c0,qn h cva,qn h cvb⟩
 have k0:=fun o=>(HK.out _ ((Below.refl _ _).alloc (jR _) o)).1
 have k1:=fun o=>(HK.out _ ((Below.refl _ _).alloc (jR _) o)).2.1
 have k2:=fun o=>(HK.out _ ((Below.refl _ _).alloc (jR _) o)).2.2
 clear H hrow ra rb hi hj hx hy hxm hym hC la lb hil hjl
 go_enter Tryz.func83,Tryz.ntmps83
 go_wp2_with fail
 go_region_law (first
  | (refine zj rfl (.tmp 8) (.tmp 15) rfl (.slice (some ⟨_,0,none⟩) 0 0) [] rfl (RRow.nil (jD W _)) qO _ (pf vs x) rfl (Ra.out.src.below (yD W _)) _ (Nat.zero_add _) _ rfl hla _ rfl ?_; intro g1 c1 w1 R1 G1 A1 L1
     have B1:Hid (Below W.heap.size W w1):=Below.trans (yD W _) (j9 G1 (fun b hb=>by cases hb; exact jR _) (by simp))
     have O1:Hid (W.heap.size≤g1):=by
      rcases A1 with h | h
      ·cases h; show W.heap.size≤_; exact jR _
      ·show W.heap.size≤g1
       rw[h];simp
     obtain⟨kw0,kw1,kw2⟩:=HK.out _ B1.out
     have R1':=jH R1
     clear R1 G1 A1 L1)
  | (refine zj rfl (.tmp 16) (.tmp 23) rfl (.slice (some ⟨g1,0,none⟩) (pf vs x).length c1) (pf vs x) rfl R1'.out qO _ (pf vs y) rfl (Rb.out.src.below B1.out) _ rfl _ hpl hlab _ rfl ?_; intro g2 c2 w2 R2 G2 A2 L2
     have B2:Hid (Below W.heap.size W w2):=Below.trans B1.out (j9 G2 (fun b hb=>by cases hb; exact O1.out) B1.out.size)
     have hcS:=HS.out w2 B2.out _ R2
     clear G2 A2 L2)
  | (go_simp; go_at_call 122; refine hcS.mono ?_; rintro y w3 ⟨i3,fv3,fl3,vs3,rfl,hp3,hi3⟩))
 all_goals
  go_wp2_with fail
  go_ret
  exact⟨i3,fv3,fl3,vs3,rfl,hp3.out.pre B2.out,hi3⟩
end Sr
