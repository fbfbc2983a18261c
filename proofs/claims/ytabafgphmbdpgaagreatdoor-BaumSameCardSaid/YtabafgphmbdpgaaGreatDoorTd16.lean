/- Texts of this claim, joined: RShf, RPrP, Take2, GiveP, GiveW, Num. -/
import Derived.Test.YtabafgphmbdpgaaGreatDoorTd1
import Derived.Test.YtabafgphmbdpgaaGreatDoorTd3
import Derived.Test.YtabafgphmbdpgaaGreatDoorTd4
import Derived.Test.YtabafgphmbdpgaaGreatDoorTd12
import Derived.Test.YtabafgphmbdpgaaGreatDoorTd15
import Derived.Lib.Hide
set_option maxHeartbeats 8000000
set_option maxRecDepth 100000
namespace Sr
open Go Go.Proofs Go.RowKit Go.Maps Go.WideMaps
section
variable {x y:Int}
theorem Sz.any {n a:Nat}(h1:(form x).length≤n)(h2:∀ e∈exps x,(form (e:Int)).length≤a): ∃ b0,∀ b,b0≤b→Sz n a b x:=by
 refine⟨maxl ((exps x).flatMap fun (e:Nat)=>(exps (e:Int)).map fun (f:Nat)=>(form (f:Int)).length),fun b hb=>⟨h1,h2,fun e he f hf=>Nat.le_trans (le_maxl ?_) hb⟩⟩
 exact List.mem_flatMap.2 ⟨e,he,List.mem_map.2 ⟨f,hf,rfl⟩⟩
def shAsk (x y:Int): List Int:=shx x y::(exps x).flatMap fun (e:Nat)=>sumAsk 0 (form (e:Int)++form y)
theorem isg_n0 {z:Int}(h:0≤z): ¬ isg z<0:=by
 unfold isg; rw[if_neg (by omega)];split <;>omega
def shMix (x y:Int)(k:Nat): List Tm:=(shl x y).take k++(form x).drop k
theorem zm (x y:Int): (shl x y).length=(form x).length:=by simp[shl]
theorem shMix_len (x y:Int)(k:Nat): (shMix x y k).length=(form x).length:=by
 unfold shMix; rw[List.length_append,List.length_take,List.length_drop,zm];omega
theorem shMix_get {k:Nat}{t:Tm}(h:(form x)[k]? = some t): (shMix x y k)[k]? = some t:=by
 have hk:=(jL h).1
 unfold shMix
 rw[List.getElem?_append_right (by rw[List.length_take,zm];omega),List.length_take,zm,Nat.min_eq_left (by omega),Nat.sub_self,List.getElem?_drop,Nat.add_zero,h]
theorem shMix_set {k:Nat}{s:Bool}{e:Nat}(h:(form x)[k]? = some (s,e)): (shMix x y k).set k (s,((e:Int)+y).toNat)=shMix x y (k+1):=by
 have hk:=(jL h).1
 have h1:(shl x y)[k]? = some (s,((e:Int)+y).toNat):=by unfold shl; rw[List.getElem?_map,h];rfl
 unfold shMix
 have e2:((shl x y).take k).length=k:=by rw[List.length_take,zm];omega
 rw[j8 h1,List.append_assoc,List.set_append_right _ _ (by omega),e2,Nat.sub_self]
 have e3:(form x).drop k=(s,e)::(form x).drop (k+1):=by
  obtain⟨h3,h4⟩:=jL h
  rw[← h4,← List.drop_eq_getElem_cons h3]
 rw[e3];rfl
theorem rShift_calls {C:List Int}{W:World}{p:Nat}{fv:Value}{fl:List Value}{vs:List Int}(H:RW C W p fv fl vs){i j:Nat}(hi:vs[i]? = some x)(hj:vs[j]? = some y){n0 m a b c:Nat}(hx:Sz n0 a b x)(hy:Sz m b c y)(ham:a+m≤2600)(hb:b≤1286)(hok:shOK x y) 
 (hC:∀ z∈shAsk x y,z∈C):Calls Tryz.prog 118 #[.pointer (some ⟨p,0,none⟩),.int .i64 (i:Nat),.int .i64 (j:Nat)] W fun e W'=>∃ (q:Nat) (fv':Value) (fl':List Value) (vs':List Int),e=.returned (.tuple #[.int .i64 (q:Nat),.bool true])∧Hid (RPut C W W' p fv fv' fl fl' vs vs')∧Hid (vs'[q]? = some (shx x y)):=by
 have c0:=H.c0
 have HH:=jH H
 have hxm:∀ e∈exps x,(e:Int)∈vs:=fun e he=>H.wv.mem_exps (jM hi) he
 obtain⟨g,cap,rfl,hrow⟩:=H.formAt
 obtain⟨va,_,cva,ra⟩:=hrow i x hi
 have hil:i<vs.length:=(jL hi).1
 have i0:(0:Int)≤(i:Int):=by omega
 have iz:(i:Int)<(vs.length:Int):=by omega
 have hla:=Nat.le_trans (yz hxm) H.vlen
 have Ra:=jH ra
 have Hxm:=jH hxm
 obtain⟨n,hn⟩:∃ n,n=(form x).length:=⟨_,rfl⟩
 have hpl:(pf vs x).length=n:=by rw[hn];simp[pf]
 rw[hpl] at hla
 have HN:=jH hn
 have hbn:n≤8000000000000:=by omega
 have HC:=jH hC
 have Hj:=jH hj
 have Hok:=jH hok
 have HsX:=jH hx
 have HsY:=jH hy
 have HPl:=jH hpl
 have k0:=fun o=>qn (W:=W) ((Below.refl _ _).alloc (jR _) o) c0
 have k1:=fun o=>qn (W:=W) ((Below.refl _ _).alloc (jR _) o) cva
 clear H hrow ra hi hxm hil hn hC hj hok hx hy hpl
 go_enter Tryz.func118,Tryz.ntmps118
 go_wp2_with (at_builtin; go_loud (refine app_R rfl _ _ rfl (.slice (some ⟨W.heap.size,0,none⟩) 0 0) [] rfl (RRow.nil (jD W _)) qO _ (pf vs x) rfl (Ra.out.src.below ((Below.refl _ _).alloc (jR _) _)) n ((Nat.zero_add _).trans HPl.out) (pf vs x) rfl hbn _ rfl ?_);intro g1 c1 w1 R1 G1 A1 L1)
 have B1:Hid (Below W.heap.size W w1):=Below.trans ((Below.refl W.heap.size W).alloc (jR _) (.cells #[] 139)) (j9 G1 (fun b hb=>by cases hb; exact jR _) (by simp))
 have O1:W.heap.size≤g1:=by
  rcases A1 with h | h
  ·cases h; exact jR _
  ·rw[h];simp
 have HNo:Hid (g1∉rB p (.slice (some ⟨g,0,none⟩) vs.length cap) fl):=fun hm=>by have:=HH.out.blt g1 hm; omega
 have HR1:Hid (RRow w1 (.slice (some ⟨g1,0,none⟩) n c1) (plt vs (shMix x y 0))):=by
  show RRow _ _ _
  have e1:plt vs (shMix x y 0)=pf vs x:=by unfold shMix; simp[plt,pf]
  rw[e1];exact R1
 have HP1:Hid (RPut C W w1 p (.slice (some ⟨g,0,none⟩) vs.length cap) (.slice (some ⟨g,0,none⟩) vs.length cap) fl fl vs vs):=(RPut.refl HH.out).post B1.out
 have HM1:Hid (∀ t∈shMix x y 0,(t.2:Int)∈vs):=fun t ht=>by unfold shMix at ht; simp at ht; exact Hxm.out _ (Sr.mem_exps ht)
 have HO1:=jH O1
 clear R1 G1 A1 L1 O1 B1 k0 k1
 go_loopg [9] n (fun g2 vi wr=>∃ (k:Nat) (fv1:Value) (fl1:List Value) (vs1:List Int),vi=.int .i64 k∧k≤n∧n - k≤g2∧Hid (RPut C W wr p (.slice (some ⟨g,0,none⟩) vs.length cap) fv1 fl fl1 vs vs1)∧Hid (RRow wr (.slice (some ⟨g1,0,none⟩) n c1) (plt vs1 (shMix x y k)))∧Hid (∀ t∈shMix x y k,(t.2:Int)∈vs1)∧Hid (g1∉rB p fv1 fl1))
 case atStart=>exact⟨0,_,_,_,rfl,by omega,by omega,HP1,HR1,HM1,HNo⟩
 case round =>
  clear HR1 HP1 HM1 HNo
  obtain⟨k,fv1,fl1,vs1,rfl,hkn,hg,HP,HR,HM,HNo⟩:=hrel
  have hk0:(0:Int)≤(k:Int):=Int.natCast_nonneg k
  have hkw:IntKind.i64.wrap ((k:Int)+1)=(k:Int)+1:=IntWalk.i64_in _ (by omega)
  have hpl:(plt vs1 (shMix x y k)).length=n:=by unfold plt; rw[List.length_map,shMix_len,HN.out]
  by_cases hk:k<n
  ·have hkz:(k:Int)<(n:Int):=by omega
   obtain⟨⟨s,e⟩,ht⟩:∃ t,(form x)[k]? = some t:=⟨_,jG (by rw[← HN.out];exact hk)⟩
   have hme:e∈exps x:=Sr.mem_exps (jM ht)
   have hmm:=shMix_get (y:=y) ht
   have hti:(plt vs1 (shMix x y k))[k]? = some (s,vs1.idxOf (e:Int)):=by unfold plt; rw[List.getElem?_map,hmm];rfl
   obtain⟨_,_,he,hcell⟩:=HR.out.get
   rw[hpl] at he
   cases he
   obtain⟨g',hg',c0',c1'⟩:=hcell k _ hti
   cases hg'
   dsimp only at c0' c1'
   have hie:vs1[vs1.idxOf (e:Int)]? = some (e:Int):=jU (HM.out _ (jM hmm))
   obtain⟨b1,hb1⟩:=Sz.any (n:=a) (a:=b) (x:=(e:Int)) (HsX.out.ex e hme) (HsX.out.ex2 e hme)
   obtain⟨b2,hb2⟩:=Sz.any (n:=m) (a:=b) (x:=y) HsY.out.len HsY.out.ex
   have hA:=rAdd_calls HP.out.rw hie (jW HP.out.ext Hj.out) (hb1 (b1+b2+14) (by omega)) (hb2 (b1+b2+14) (by omega)) ham hb (by omega) (fun z hz=>HC.out z (by unfold shAsk; exact List.mem_cons_of_mem _ (List.mem_flatMap.2 ⟨e,hme,hz⟩)))
   have hez:((((e:Int)+y).toNat:Nat):Int)=(e:Int)+y:=Int.toNat_of_nonneg (Hok.out e hme)
   have Hez:=jH hez
   have hsg:=isg_n0 (Hok.out e hme)
   have Hti:=jH hti
   have Ht:=jH ht
   have Hpl:=jH hpl
   obtain⟨d,hd⟩:∃ d,vs1.idxOf (e:Int)=d:=⟨_,rfl⟩
   rw[hd] at hA c1' Hti
   clear hcell hb1 hb2 hie hmm hme hti ht hez hpl hd
   go_wp2_with fail
   refine hA.mono ?_
   rintro y1 w2 ⟨q,fv2,fl2,vs2,rfl,hp2,hq2⟩
   have HP2:=jH (HP.out.trans hp2.out)
   have hR2:RRow w2 (.slice (some ⟨g1,0,none⟩) n c1) (plt vs2 (shMix x y k)):=by rw[plt_ext hp2.out.ext HM.out];exact HR.out.fr HP.out.rw hp2.out.fr
   have hM2:∀ t∈shMix x y k,(t.2:Int)∈vs2:=fun t ht=>qN hp2.out.ext (HM.out t ht)
   have hpl2:(plt vs2 (shMix x y k)).length=n:=by unfold plt; rw[List.length_map,shMix_len,HN.out]
   have hti2:(plt vs2 (shMix x y k))[k]? = some (s,vs2.idxOf (e:Int)):=by unfold plt; rw[List.getElem?_map,shMix_get Ht.out];rfl
   have hN2:g1∉rB p fv2 fl2:=hp2.out.notin (by obtain⟨c',hc'⟩:=jO HR.out rfl; exact (jA hc').1) HNo.out
   obtain⟨_,_,he2,hcell2⟩:=hR2.get
   rw[hpl2] at he2
   cases he2
   obtain⟨g',hg',d0,d1⟩:=hcell2 k _ hti2
   cases hg'
   dsimp only at d0 d1
   have hfr:=rfree hR2 (k*2+1)
   rw[← Hez.out] at hq2
   have hqi:=HP2.out.rw.wv.idx_get hq2.out
   have hS:=setEx q hti2 (by have:=hR2; unfold RRow at this; rwa [hpl2] at this)
   have hset:(plt vs2 (shMix x y k)).set k (s,q)=plt vs2 (shMix x y (k+1)):=by
    rw[← shMix_set Ht.out]
    unfold plt
    rw[List.map_set]
    dsimp only
    rw[hqi]
   have HM3:Hid (∀ t∈shMix x y (k+1),(t.2:Int)∈vs2):=fun t ht=>by
    rw[← shMix_set Ht.out] at ht
    rcases List.mem_or_eq_of_mem_set ht with h | h
    ·exact hM2 t h
    ·subst h; exact jM hq2.out
   have HR3:Hid (RRow (w2.setCell ⟨g1,k*2+1,none⟩ (.int .i64 (q:Nat))) (.slice (some ⟨g1,0,none⟩) n c1) (plt vs2 (shMix x y (k+1)))):=by
    have e1:(plt vs2 (shMix x y (k+1))).length=n:=by unfold plt; rw[List.length_map,shMix_len,HN.out]
    show World.ownsRow _ _ _ _ _ _ _
    rw[e1,← hset];exact hS
   have HP3:=jH (HP2.out.store (k*2+1) (.int .i64 (q:Nat)) hN2 HO1.out)
   have hSg:=rSign_calls HP3.out.rw hq2.out
   rw[Hez.out] at hSg
   have HN3:=jH hN2
   generalize isg ((e:Int)+y)=sgz at hSg hsg
   have hsd:decide (sgz<0)=false:=by simpa using hsg
   clear hset hS hqi hcell2 hti2 hpl2 hM2 hR2 hA hN2
   go_wp2_with fail
   refine hSg.mono ?_
   rintro y2 w3 ⟨rfl,rfl⟩
   go_wp2_with fail
   go_roundg (n - (k+1))
   case measure=>omega
   case rel=>exact⟨k+1,fv2,fl2,vs2,by go_num,by omega,by omega,HP3,HR3,HM3,HN3⟩
  ·obtain rfl:n=k:=by omega
   have hmx:shMix x y n=form (shx x y):=by
    unfold shMix
    rw[List.take_of_length_le (by rw[zm,← HN.out];omega),List.drop_eq_nil_of_le (by rw[← HN.out];omega),List.append_nil,yP Hok.out]
   rw[hmx] at HR HM hpl
   have hA:=yk HP.out.rw (x:=shx x y) (fun e he=>by obtain⟨t,ht,rfl⟩:=List.mem_map.1 he; exact HM.out t ht) HR.out (.inl (HC.out _ (by unfold shAsk; simp)))
   clear hmx hpl HR HM
   go_wp2_with fail
   refine hA.mono ?_
   rintro y w2 ⟨fv2,fl2,rfl,hp2⟩
   go_wp2_with fail
   refine bodyPost_ret (results_tmp2 rfl _ _ _) rfl ?_
   exact⟨_,fv2,fl2,_,rfl,HP.out.trans hp2.out,jU (qt _ _)⟩
end
end Sr
namespace Sr
section
structure RMk (vs:List Int)(x:Int)(X r:Nat)(u:List Bool): Prop where
 len:u.length=X+1
 top:u[X]? = some true
 snd:∀ (j:Nat) (p:Int),u[j]? = some true→vs[j]? = some p→j=X∨∃ q:Nat,p=(q:Int)∧IsPart x q
 cls:∀ (l:Nat) (p:Int),r≤l→u[l]? = some true→vs[l]? = some p→∀ e∈exps p,u[vs.idxOf (e:Int)]? = some true
structure RMkI (vs:List Int)(x:Int)(X i m:Nat)(u:List Bool): Prop where
 mk':RMk vs x X (i+1) u
 done:∀ p,u[i]? = some true→vs[i]? = some p→∀ e∈(exps p).take m,u[vs.idxOf (e:Int)]? = some true
variable {i k y:Nat} {p:Int} {g l:List Nat}
section
variable {vs:List Int} {x:Int} {X:Nat}
theorem RMk.start:RMk vs x X (X+1) ((List.replicate (X+1) false).set X true) where
 len:=by simp
 top:=by simp
 snd:=fun j p hj hp=>by
  by_cases e:j=X
  ·exact .inl e
  ·rw[List.getElem?_set_ne (Ne.symm e),List.getElem?_replicate] at hj
   split at hj <;>cases hj
 cls:=fun l p hr hl _=>by
  have:=(jL hl).1
  simp at this; omega
theorem RMk.inner {u:List Bool}(h:RMk vs x X (i+1) u): RMkI vs x X i 0 u:=⟨h,fun _ _ _ e he=>by simp at he⟩
theorem RMkI.step (hw:WV vs)(hX:vs[X]? = some x){i m e:Nat}{p:Int}{u:List Bool}(h:RMkI vs x X i m u)(hi:vs[i]? = some p)(hui:u[i]? = some true)(he:(exps p)[m]? = some e):
 RMkI vs x X i (m+1) (u.set (vs.idxOf (e:Int)) true):=by
 have hem:e∈exps p:=jM he
 have hev:=hw.mem_exps (jM hi) hem
 have mono:∀ j:Nat,u[j]? = some true→(u.set (vs.idxOf (e:Int)) true)[j]? = some true:=fun j hj=>by
  by_cases ej:j=vs.idxOf (e:Int)
  ·subst ej; rw[List.getElem?_set_self (jL hj).1]
  ·rw[List.getElem?_set_ne (Ne.symm ej)];exact hj
 have back:∀ j:Nat,(u.set (vs.idxOf (e:Int)) true)[j]? = some true→u[j]? = some true∨j=vs.idxOf (e:Int):=fun j hj=>by
  by_cases ej:j=vs.idxOf (e:Int)
  ·exact .inr ej
  ·rw[List.getElem?_set_ne (Ne.symm ej)] at hj; exact .inl hj
 have hXl:=(jL h.mk'.top).1
 obtain⟨k,hk,hke⟩:=hw.closed i p hi e hem
 have hki:=hw.idx_get hke
 have hil:=(jL hui).1
 have hpart:∀ q:Int,vs[i]? = some q→IsPart x e:=fun q hq=>by
  rw[hi] at hq; cases hq
  rcases h.mk'.snd i p hui hi with h1 | ⟨q,rfl,h1⟩
  ·subst h1; rw[hX] at hi; cases hi; exact .here hem
  ·exact .step h1 hem
 refine⟨⟨by rw[List.length_set];exact h.mk'.len,mono _ h.mk'.top,fun j q hj hq=>?_,fun l q hl hul hq f hf=>?_⟩,fun q huq hq f hf=>?_⟩
 ·rcases back j hj with h1 | h1
  ·exact h.mk'.snd j q h1 hq
  ·subst h1; rw[hki,hke] at hq; cases hq
   exact .inr ⟨e,rfl,hpart p hi⟩
 ·rcases back l hul with h1 | h1
  ·exact mono _ (h.mk'.cls l q hl h1 hq f hf)
  ·omega
 ·rw[hi] at hq; cases hq
  rw[List.take_add_one,he] at hf
  rcases List.mem_append.1 hf with h1 | h1
  ·exact mono _ (h.done p hui hi f h1)
  ·have:f=e:=by simpa using h1
   subst this
   rw[List.getElem?_set_self (by rw[hki];have:=h.mk'.len; omega)]
theorem RMkI.next {m:Nat}{u:List Bool}(h:RMkI vs x X i m u)(hi:vs[i]? = some p)(hm:u[i]? = some true→(exps p).length≤m): RMk vs x X i u :=
 ⟨h.mk'.len,h.mk'.top,h.mk'.snd,fun l q hl hul hq f hf=>by
  rcases Nat.lt_or_ge i l with h1 | h1
  ·exact h.mk'.cls l q h1 hul hq f hf
  ·obtain rfl:l=i:=by omega
   rw[hi] at hq; cases hq
   exact h.done p hul hi f (by rw[List.take_of_length_le (hm hul)];exact hf)⟩
theorem RMk.iff (hw:WV vs)(hX:vs[X]? = some x){u:List Bool}(h:RMk vs x X 0 u){j:Nat}(hj:j<X)(hp:vs[j]? = some p): u[j]? = some true↔∃ q:Nat,p=(q:Int)∧q∈parts x:=by
 constructor
 ·intro hu
  rcases h.snd j p hu hp with h1 | ⟨q,h1,h2⟩
  ·omega
  ·exact⟨q,h1,mem_parts.2 h2⟩
 ·rintro⟨q,rfl,hq⟩
  have key:∀ q:Nat,IsPart x q→u[vs.idxOf (q:Int)]? = some true:=fun q hq=>by
   induction hq with
   | here he=>exact h.cls X x (Nat.zero_le _) h.top hX _ he
   | @step q r hq he ih =>
     have hm:=hw.mem_parts (jM hX) hq
     exact h.cls _ (q:Int) (Nat.zero_le _) ih (jU hm) r he
  have:=key q (mem_parts.1 hq)
  rwa [hw.idx_get hp] at this
end
def marked (u:List Bool)(k:Nat): List Nat:=(List.range k).filter fun i=>u.getD i false
theorem marked_yes {u:List Bool}(h:u[k]? = some true): marked u (k+1)=marked u k++[k]:=by
 unfold marked; rw[List.range_succ,List.filter_append];simp[List.getD_eq_getElem?_getD,h]
theorem marked_no {u:List Bool}(h:u[k]? = some false): marked u (k+1)=marked u k:=by
 unfold marked; rw[List.range_succ,List.filter_append];simp[List.getD_eq_getElem?_getD,h]
theorem marked_mem {u:List Bool}{j:Nat}: j∈marked u k↔j<k∧u[j]? = some true:=by
 unfold marked
 rw[List.mem_filter,List.mem_range]
 cases h:u[j]? with
 | none=>simp[List.getD_eq_getElem?_getD,h]
 | some b=>simp[List.getD_eq_getElem?_getD,h]
theorem marked_nodup (u:List Bool)(k:Nat): (marked u k).Nodup:=List.Pairwise.filter _ List.nodup_range
structure Ins (v:Nat→Int)(g l:List Nat)(i:Nat)(A:List Nat)(y:Nat)(B R:List Nat): Prop where
 eq:l=A++y::(B++R)
 len:A.length+B.length=i
 perm:l.Perm g
 srt:(A++B).Pairwise (fun a b=>v a<v b)
 lt:∀ b∈B,v y<v b
structure Srt (v:Nat→Int)(g l:List Nat)(i:Nat): Prop where
 perm:l.Perm g
 srt:(l.take i).Pairwise (fun a b=>v a<v b)
theorem Srt.inner {v:Nat→Int}(h:Srt v g l i)(hy:l[i]? = some y): Ins v g l i (l.take i) y [] (l.drop (i+1)):=by
 obtain⟨h1,h2⟩:=jL hy
 refine⟨?_,by simp; omega,h.perm,by simpa using h.srt,by simp⟩
 rw[List.nil_append,← h2,← List.drop_eq_getElem_cons h1,List.take_append_drop]
theorem Ins.swap {v:Nat→Int}{g l:List Nat}{i z y:Nat}{A B R:List Nat}(h:Ins v g l i (A++[z]) y B R)(hz:v y<v z): Ins v g ((l.set A.length y).set (A.length+1) z) i A y (z::B) R:=by
 have e1:l=A++z::y::(B++R):=by rw[h.eq];simp
 have e2:(l.set A.length y).set (A.length+1) z=A++y::z::(B++R):=by
  rw[e1,List.set_append_right _ _ (jR _),Nat.sub_self,List.set_append_right _ _ (by omega),show A.length+1 - A.length=0+1 by omega];rfl
 refine⟨by rw[e2];simp,by have:=h.len; simp at this ⊢;omega,?_,?_,?_⟩
 ·refine List.Perm.trans ?_ h.perm
  rw[e2,e1]
  exact List.Perm.append_left A (List.Perm.swap z y (B++R))
 ·have:=h.srt; simpa using this
 ·intro b hb
  rcases List.mem_cons.1 hb with rfl | hb
  ·exact hz
  ·exact h.lt b hb
theorem Ins.stop {v:Nat→Int}{A B R:List Nat}(h:Ins v g l i A y B R)(hA:A=[]∨∃ A' z,A=A'++[z]∧v z<v y): Srt v g l (i+1):=by
 refine⟨h.perm,?_⟩
 have e1:l.take (i+1)=A++y::B:=by
  rw[h.eq,show A++y::(B++R)=(A++y::B)++R by simp]
  rw[List.take_left' (by have:=h.len; simp; omega)]
 rw[e1]
 obtain⟨s1,s2,s3⟩:=List.pairwise_append.1 h.srt
 refine List.pairwise_append.2 ⟨s1,List.pairwise_cons.2 ⟨h.lt,s2⟩,fun a ha b hb=>?_⟩
 have hay:v a<v y:=by
  rcases hA with rfl | ⟨A',z,rfl,hz⟩
  ·simp at ha
  ·rcases List.mem_append.1 ha with h1 | h1
   ·have:=(List.pairwise_append.1 s1).2.2 a h1 z (by simp);omega
   ·have:a=z:=by simpa using h1
    subst this; exact hz
 rcases List.mem_cons.1 hb with rfl | hb
 ·exact hay
 ·have:=h.lt b hb; omega
theorem parts_srt {vs:List Int}(hw:WV vs){x:Int}{X:Nat}(hX:vs[X]? = some x){u:List Bool}(h:RMk vs x X 0 u)(hl:Srt (zb vs) (marked u X) l l.length): l=(parts x).map fun (p:Nat)=>vs.idxOf (p:Int):=by
 have hs:=hl.srt
 rw[List.take_length] at hs
 have hmem:∀ j,j∈l↔∃ q∈parts x,vs[j]? = some (q:Int):=fun j=>by
  rw[hl.perm.mem_iff,marked_mem]
  constructor
  ·rintro⟨h1,h2⟩
   obtain⟨p,hp⟩:∃ p,vs[j]? = some p:=⟨_,jG (by have:=(jL hX).1; omega)⟩
   obtain⟨q,rfl,hq⟩:=(h.iff hw hX h1 hp).1 h2
   exact⟨q,hq,hp⟩
  ·rintro⟨q,hq,hj⟩
   have hjX:j<X:=by
    obtain⟨e,he,h1⟩:=(mem_parts.1 hq).cases_top
    obtain⟨k,hk,hke⟩:=hw.closed X x hX e he
    rcases h1 with rfl | h1
    ·have e1:=hw.idx_get hj; have e2:=hw.idx_get hke; omega
    ·-- a part of a part lies ahead of it
     have key:∀ (a r:Nat),IsPart (a:Int) r→∀ j k:Nat,vs[k]? = some (a:Int)→vs[j]? = some (r:Int)→j<k:=by
      intro a r har
      induction har with
      | here he' =>
        intro j k hk hj
        obtain⟨k',hk',hke'⟩:=hw.closed k _ hk _ he'
        have e1:=hw.idx_get hj; have e2:=hw.idx_get hke'; omega
      | @step q r hq' he' ih =>
        intro j k hk hj
        have hqm:=hw.mem_parts (jM hk) hq'
        have h3:=ih _ k hk (jU hqm)
        obtain⟨k',hk',hke'⟩:=hw.closed _ _ (jU hqm) _ he'
        have e1:=hw.idx_get hj; have e2:=hw.idx_get hke'; omega
     have:=key e q h1 j k hke hj; omega
   exact⟨hjX,(h.iff hw hX hjX hj).2 ⟨q,rfl,hq⟩⟩
 have hval:l.map (fun j=>(zb vs j).toNat)=parts x:=by
  refine yJ ?_ (qR x) fun q=>?_
  ·rw[List.pairwise_map]
   refine hs.imp_of_mem fun {a b} ha hb hab=>?_
   obtain⟨q,_,h1⟩:=(hmem a).1 ha
   obtain⟨r,_,h2⟩:=(hmem b).1 hb
   rw[zE h1,zE h2] at hab
   rw[zE h1,zE h2];simp; omega
  ·rw[List.mem_map]
   constructor
   ·rintro⟨j,hj,rfl⟩
    obtain⟨q,hq,h1⟩:=(hmem j).1 hj
    rw[zE h1];simpa using hq
   ·intro hq
    have hqv:=hw.mem_parts (jM hX) (mem_parts.1 hq)
    exact⟨vs.idxOf (q:Int),(hmem _).2 ⟨q,hq,jU hqv⟩,by rw[zE (jU hqv)];simp⟩
 rw[← hval,List.map_map]
 conv=>lhs; rw[← List.map_id l]
 refine List.map_congr_left fun j hj=>?_
 obtain⟨q,_,h1⟩:=(hmem j).1 hj
 show j=vs.idxOf (((zb vs j).toNat:Nat):Int)
 rw[zE h1];simp[hw.idx_get h1]
end
end Sr
namespace Sr
open Go Go.Proofs Go.RowKit Go.Maps Go.WideMaps
section
structure TakeSt (C:List Nat)(w1:World)(p:Nat)(F:List Nat)(vs:List Int)(gks:List Nat)(m:Nat)(x:Int)(b5 k:Nat)(F':List Nat)(D':WD)(vs':List Int)(plv:Value)(wr:World): Prop where
 wo:WO C wr p F' D' vs' gks (m+k)
 fr:Fr (b5::F) w1 wr
 sub:∀ b∈F',b∈F∨w1.heap.size≤b
 pre:vs <+: vs'
 mem:∀ q∈(Sr.parts x).take k,((q:Nat):Int)∈vs'
 box:wr.heap[b5]? = some (.cells #[plv] 80 (0,0))
 row:IRow wr plv (((Sr.parts x).take k).map fun (q:Nat)=>vs'.idxOf (q:Int))
 own:∀ b,plv.ownBlock=some b→w1.heap.size≤b∧b∉F'
variable {x:Int} {k:Nat} {vs:List Int}
theorem xF {q:Nat}(hk:(Sr.parts x)[k]? = some q): ∀ e∈exps (q:Int),e∈(Sr.parts x).take k:=by
 intro e he
 have hq:IsPart x q:=mem_parts.1 (jM hk)
 have hm:e∈Sr.parts x:=mem_parts.2 (.step hq he)
 obtain⟨i,hi⟩:=List.mem_iff_getElem?.1 hm
 have hlt:e<q:=by have:=qz he; simpa using this
 have hik:i<k:=by
  rcases Nat.lt_or_ge i k with h | h
  ·exact h
  ·exfalso
   obtain⟨hil,hie⟩:=jL hi
   obtain⟨hkl,hke⟩:=jL hk
   rcases Nat.lt_or_eq_of_le h with h | h
   ·have:=List.pairwise_iff_getElem.1 (qR x) k i hkl hil h
    omega
   ·subst h; rw[hie] at hke; omega
 exact List.mem_iff_getElem?.2 ⟨i,by rw[List.getElem?_take_of_lt hik];exact hi⟩
theorem at_places {y:Int}(hy:∀ e∈exps y,e∈(Sr.parts x).take k):
 (∀ t∈atPl (Sr.parts x) y,t.2<(((Sr.parts x).take k).map fun (q:Nat)=>vs.idxOf (q:Int)).length) ∧
 (atPl (Sr.parts x) y).map (fun t=>(t.1,(((Sr.parts x).take k).map fun (q:Nat)=>vs.idxOf (q:Int)).getD t.2 0))=pf vs y:=by
 have key:∀ t∈form y,(Sr.parts x).idxOf t.2<((Sr.parts x).take k).length∧((Sr.parts x).take k)[(Sr.parts x).idxOf t.2]? = some t.2:=by
  intro t ht
  have h1:=hy t.2 (mem_exps ht)
  have h2:(Sr.parts x).idxOf t.2=((Sr.parts x).take k).idxOf t.2:=by
   conv=>lhs; rw[← List.take_append_drop k (Sr.parts x)]
   rw[List.idxOf_append,if_pos h1]
  rw[h2]
  have h3:=List.idxOf_lt_length_of_mem h1
  refine⟨h3,?_⟩
  rw[jG h3];simp
 refine⟨fun t ht=>?_,?_⟩
 ·obtain⟨u,hu,rfl⟩:=List.mem_map.1 ht
  rw[List.length_map];exact (key u hu).1
 ·unfold atPl pf
  rw[List.map_map]
  refine List.map_congr_left fun u hu=>?_
  simp only[Function.comp]
  rw[List.getD_eq_getElem?_getD,List.getElem?_map,(key u hu).2];rfl
theorem take_step {C:List Nat}{w1 wr w2 w3:World}{p:Nat}{F F' F'':List Nat}{D' D'':WD}{vs':List Int}{gks:List Nat}{m b5 q g n1 cap:Nat}{plv:Value}{o:Obj}(S:TakeSt C w1 p F vs gks m x b5 k F' D' vs' plv wr) 
 (hq:(Sr.parts x)[k]? = some q) (hput:Put C wr.drew w2 p F' F'' D'' (putIn vs' (q:Int)) gks (m+k+1) (fun _=>False)) (hb5:b5<w1.heap.size) (hb5F:b5∉F)
 (hI:IRow w3 (.slice (some ⟨g,0,none⟩) n1 cap) ((((Sr.parts x).take k).map fun (q:Nat)=>vs'.idxOf (q:Int))++[(putIn vs' (q:Int)).idxOf (q:Int)])) (hg:(w2.alloc o).grownBy w3 plv.ownBlock) (hat:plv.ownBlock=some g∨g=w2.heap.size+1) :
 TakeSt C w1 p F vs gks m x b5 (k+1) F'' D'' (putIn vs' (q:Int)) (.slice (some ⟨g,0,none⟩) n1 cap) (w3.setCell ⟨b5,0,none⟩ (.slice (some ⟨g,0,none⟩) n1 cap)):=by
 have hsz:=S.fr.size
 have hs2:wr.heap.size≤w2.heap.size:=hput.fr.size
 have hs3:w2.heap.size+1≤w3.heap.size:=by have:=hg.size; simpa using this
 have hb5F':b5∉F':=fun h=>by rcases S.sub b5 h with h | h; exact hb5F h; omega
 have hF'':∀ b∈F'',b∈F'∨wr.heap.size≤b:=fun b hb=>by
  rcases hput.sub b hb with h | h | h
  ·exact .inl h
  ·exact .inr h
  ·exact h.elim
 have hb5F'':b5∉F'':=fun h=>by rcases hF'' b5 h with h | h; exact hb5F' h; omega
 have hown:∀ b,plv.ownBlock=some b→b<wr.heap.size∧b∉F':=fun b e=>⟨jP S.row e,(S.own b e).2⟩
 have hne5:plv.ownBlock≠some b5:=fun e=>by
  obtain⟨c,hc⟩:=jO S.row e
  exact jI hc S.box (by decide) rfl
 have keep:∀ b,b<w2.heap.size→plv.ownBlock≠some b→b≠b5→(w3.setCell ⟨b5,0,none⟩ (.slice (some ⟨g,0,none⟩) n1 cap)).heap[b]? = w2.heap[b]?:=fun b h1 h2 h3 =>
  (jS _ _ _ _ h3).trans ((hg.block b (by simp; omega) (fun e=>h2 e.symm)).trans (jE _ _ h1))
 refine⟨?_,?_,?_,S.pre.trans (zK _ _),?_,?_,?_,?_⟩
 ·have:=hput.wo.kept (W':=w3.setCell ⟨b5,0,none⟩ (.slice (some ⟨g,0,none⟩) n1 cap)) (fun b hb=>keep b (hput.wo.blt b hb) (fun e=>?_) (fun e=>hb5F'' (e▸hb)))
  ·exact this
  ·obtain⟨h1,h2⟩:=hown b e
   rcases hF'' b hb with h | h
   ·exact h2 h
   ·omega
 ·have hos:w3.os=w2.os:=hg.os
  refine⟨hos.trans (hput.fr.os.trans S.fr.os),(show w3.tape=w2.tape from hg.tape).trans (hput.fr.tape.trans S.fr.tape),(show w3.output=w2.output from hg.output).trans (hput.fr.output.trans S.fr.output),by simp; omega,fun b hb hn=>?_⟩
  have hbF':b∉F':=fun h=>by
   rcases S.sub b h with h | h
   ·exact hn (List.mem_cons_of_mem _ h)
   ·omega
  rw[keep b (by omega) (fun e=>by have:=(S.own b e).1; omega) (fun e=>hn (by simp[e])),hput.fr.block b (by show b<wr.heap.size; omega) hbF']
  exact S.fr.block b hb hn
 ·intro b hb
  rcases hF'' b hb with h | h
  ·exact S.sub b h
  ·exact .inr (by omega)
 ·intro r hr
  rw[j8 hq] at hr
  rcases List.mem_append.1 hr with h | h
  ·exact qN (zK _ _) (S.mem r h)
  ·simp at h; subst h; exact qt _ _
 ·have h1:w3.heap[b5]? = some (.cells #[plv] 80 (0,0)):=by
   rw[hg.block b5 (by simp; omega) (fun e=>hne5 e.symm),jE _ _ (by omega),hput.fr.block b5 (by show b5<wr.heap.size; omega) hb5F']
   exact S.box
  exact heap_setCell_same w3 b5 0 _ 80 _ h1
 ·have e:((Sr.parts x).take (k+1)).map (fun (r:Nat)=>(putIn vs' (q:Int)).idxOf (r:Int))=(((Sr.parts x).take k).map fun (r:Nat)=>vs'.idxOf (r:Int))++[(putIn vs' (q:Int)).idxOf (q:Int)]:=by
   rw[j8 hq,List.map_append]
   congr 1
   exact List.map_congr_left fun r hr=>zV (zK _ _) (S.mem r hr)
  rw[e]
  exact jJ hI fun b hb=>jS _ _ _ _ (by
   show b≠b5
   intro e5
   have h5:w3.heap[b5]? = some (.cells #[plv] 80 (0,0)):=by
    rw[hg.block b5 (by simp; omega) (fun e=>hne5 e.symm),jE _ _ (by omega),hput.fr.block b5 (by show b5<wr.heap.size; omega) hb5F']
    exact S.box
   obtain⟨c,hc⟩:=jO hI hb
   exact jI hc h5 (by decide) e5)
 ·intro b hb
  have hb':b=g:=by simpa [Value.ownBlock] using hb.symm
  subst hb'
  rcases hat with h | h
  ·obtain⟨h1,h2⟩:=hown b h
   refine⟨(S.own b h).1,fun hm=>?_⟩
   rcases hF'' b hm with h' | h'
   ·exact h2 h'
   ·omega
  ·refine⟨by omega,fun hm=>?_⟩
   have:=hput.wo.blt b hm
   omega
theorem zn {C:List Nat}{W0 W:World}{p:Nat}{F:List Nat}{D:WD}{gks:List Nat}{m:Nat}(H:Hid (Wt C W0 W p F D vs gks m)){v:Value}(hx:IsN W0 v x)(hm:m+2000+C.length≤2147483648):
 Calls Tryz.prog 60 #[.pointer (some ⟨p,0,none⟩),v] W fun e W'=>∃ (F':List Nat) (D':WD) (vs':List Int),e=.returned (.int .i64 (vs'.idxOf x:Nat))∧Hid (x∈vs')∧Hid (vs <+: vs')∧Hid (Wt C W0 W' p F' D' vs' gks (m+2000))∧Hid (FE F W F' W'):=by
 obtain⟨q,rfl⟩:∃ q,v=.agg #[.pointer q]:=by
  obtain⟨_,⟨_,rfl⟩ | ⟨_,b,_,_,_,rfl,_⟩⟩:=hx
  ·exact⟨_,rfl⟩
  ·exact⟨_,rfl⟩
 have hal:=hx.1
 obtain⟨pv,sv,fl,HR0⟩:=hx.get'
 have HR:Hid (∀ w',Below W0.heap.size W0 w'→Rows w' (.agg #[.pointer q]) x pv sv fl):=HR0
 obtain⟨pa,pc,rfl⟩:∃ pa pc,pv=.slice pa (Sr.parts x).length pc:=by
  obtain⟨_,⟨rfl,h2⟩ | ⟨g,cap,cur,rfl,_⟩⟩:=(HR0 W H.out.low).prow
  ·exact⟨none,0,by rw[h2]⟩
  ·exact⟨_,cap,rfl⟩
 clear HR0 hx
 obtain⟨N,hN⟩:∃ N,N=(Sr.parts x).length:=⟨_,rfl⟩
 have HN:Hid (N=(Sr.parts x).length):=hN
 have hNb:N≤1999:=by have:=hal.2.2.1; omega
 rw[← hN] at HR
 have HAl:Hid (allowed x):=hal
 clear hal hN
 have HP:=fun w' hb=>(HR.out w' hb).parts
 have HSf:=fun w' hb=>(HR.out w' hb).self
 go_enter Tryz.func60,Tryz.ntmps60
 go_wp2_with fail
 refine (HP _ (((H.out.low.alloc H.out.low.size _).alloc (by have:=H.out.low.size; simp; omega) _).alloc (by have:=H.out.low.size; simp; omega) _)).mono ?_
 rintro y w1 ⟨rfl,o1,hw1⟩
 have hz:W.heap.size+4=w1.heap.size:=by rw[hw1];simp
 have HB1:Hid (Below W.heap.size W w1):=by
  show Below _ _ _
  rw[hw1]
  exact ((((Below.refl W.heap.size W).alloc (jR _) _).alloc (by simp) _).alloc (by simp; omega) _).alloc (by simp; omega) _
 have X2:Hid (w1.heap[W.heap.size]? = some (.cells #[.pointer (some ⟨p,0,none⟩)] 107 (0,0))):=by
  show _=_
  rw[hw1,jE _ _ (by simp; omega),jE _ _ (by simp; omega),jE _ _ (by simp),jD]
 have X3:Hid (w1.heap[W.heap.size+1]? = some (.cells #[.pointer q] 26 (0,0))):=by
  show _=_
  rw[hw1,jE _ _ (by simp),jE _ _ (by simp)]
  have:=jD (W.alloc (.cells #[.pointer (some ⟨p,0,none⟩)] 107)) (.cells #[.pointer q] 26)
  rwa [jY] at this
 have X5:Hid (w1.heap[W.heap.size+1+1]? = some (.cells #[.slice none 0 0] 80 (0,0))):=by
  show _=_
  rw[hw1,jE _ _ (by simp)]
  have:=jD ((W.alloc (.cells #[.pointer (some ⟨p,0,none⟩)] 107)).alloc (.cells #[.pointer q] 26)) (.cells #[.slice none 0 0] 80)
  rwa [jY,jY] at this
 have S0:Hid (TakeSt C w1 p F vs gks m x (W.heap.size+1+1) 0 F D vs (.slice none 0 0) w1) :=
  ⟨H.out.wo.below HB1.out,Fr.refl _ _,fun b hb=>.inl hb,List.prefix_refl _,by simp,X5.out,⟨rfl,.inl ⟨rfl,rfl⟩⟩,fun b hb=>by cases hb⟩
 clear HP hw1
 go_wp2_with fail
 go_loopg [13] N (fun g1 vi wr=>∃ (k:Nat) (F':List Nat) (D':WD) (vs':List Int) (plv:Value),vi=.int .i64 k∧k≤N∧N - k≤g1∧Hid (TakeSt C w1 p F vs gks m x (W.heap.size+1+1) k F' D' vs' plv wr))
 case atStart=>exact⟨0,F,D,vs,_,rfl,by omega,by omega,S0⟩
 case round =>
  clear S0
  obtain⟨k,F',D',vs',plv,rfl,hkl,hg,HS⟩:=hrel
  by_cases hk:k<N
  ·have hkz:(k:Int)<(N:Int):=by omega
   have hk0:(0:Int)≤(k:Int):=Int.natCast_nonneg k
   have hkw:IntKind.i64.wrap ((k:Int)+1)=(k:Int)+1:=IntWalk.i64_in _ (by omega)
   have hsz:=HS.out.fr.size
   have hlow1:Below W0.heap.size W0 w1:=qL (F:=[]) H.out.low (by simp) (Fr.of_below HB1.out)
   have hlow:Below W0.heap.size W0 wr:=qL (F:=(W.heap.size+1+1)::F) hlow1 (by have:=H.out.low.size; intro b hb; simp at hb; rcases hb with rfl | hb; omega; exact H.out.hi b hb) HS.out.fr
   have hF5:W.heap.size+1+1∉F:=fun h=>by have:=H.out.wo.blt _ h; omega
   have hF2:W.heap.size∉F:=fun h=>by have:=H.out.wo.blt _ h; omega
   have hR:=HR.out wr hlow
   obtain⟨qq,hq⟩:∃ qq,(Sr.parts x)[k]? = some qq:=⟨_,jG (by rw[← HN.out];exact hk)⟩
   obtain⟨u,hu,hru⟩:=hR.rows k qq hq
   obtain⟨gp,cp,heq,cq⟩:=qS hR.prow hu
   obtain⟨e1,e2,e3⟩:=Value.slice.inj heq
   subst e1
   clear e2 e3 heq
   have hbx:(wr.drew).heap[W.heap.size]? = some (.cells #[.pointer (some ⟨p,0,none⟩)] 107 (0,0)) :=
    (HS.out.fr.block W.heap.size (by omega) (by intro hm; simp at hm; rcases hm with hm | hm; omega; exact hF2 hm)).trans X2.out
   have hpl:=at_places (vs:=vs') (xF hq)
   have hal:=HAl.out.2.1 qq (jM hq)
   obtain⟨ds,hds⟩:∃ ds,ds=((Sr.parts x).take k).map fun (q:Nat)=>vs'.idxOf (q:Int):=⟨_,rfl⟩
   have hrow:IRow wr.drew plv ds:=by rw[hds];exact HS.out.row
   rw[← hds] at hpl
   have hlenb:ds.length+1≤1099511627776:=by rw[hds,List.length_map,List.length_take];omega
   have HDS:Hid (ds=((Sr.parts x).take k).map fun (q:Nat)=>vs'.idxOf (q:Int)):=hds
   clear hds
   have HC:=take1_calls (C:=C) (W:=wr.drew) (p:=p) (F:=F') (D:=D') (vs:=vs') (gks:=gks) (m:=m+k) HS.out.wo.drew (bp:=W.heap.size+1+1) (bw:=W.heap.size) (pv:=plv) (v:=u) (ds:=ds) (l:=atPl (Sr.parts x) (qq:Int)) (qq:Int)
    HS.out.box hbx hrow hru (fun e he=>HS.out.mem e (xF hq e he)) hpl.1 hpl.2 (by omega) (by unfold atPl; rw[List.length_map];omega)
   have c5:wr.cell? ⟨W.heap.size+1+1,0,none⟩=some plv:=by rw[jB HS.out.box];rfl
   have f5:wr.frozen? ⟨W.heap.size+1+1,0,none⟩=false:=jF HS.out.box 0
   have HQ:Hid ((Sr.parts x)[k]? = some qq):=hq
   have HL5:Hid (W.heap.size+1+1<w1.heap.size∧W.heap.size+1+1∉F):=⟨by omega,hF5⟩
   have HRw:Hid (IRow wr.drew plv ds):=hrow
   have hlt5:W.heap.size+1+1<wr.heap.size:=by omega
   have H5n:Hid (plv.ownBlock≠some (W.heap.size+1+1)):=fun e=>by
    obtain⟨c,hc⟩:=jO HRw.out e
    exact jI hc HS.out.box (by decide) rfl
   have H5f:Hid (W.heap.size+1+1∉F'):=fun h=>by rcases HS.out.sub _ h with h | h; exact hF5 h; omega
   clear hrow
   clear hq hu hru hpl hal hR hlow hlow1 hbx hF5 hF2
   go_wp2_with fail
   go_region_law (first
    | (refine step_I1 rfl (.tmp 17) (.tmp 21) rfl plv ds rfl (World.ownsRow.alloc HI.out _) _ _ rfl (jD _ _) hlenb _ rfl ?_; intro g cap w3 I3 G3 A3 L3
       have h5:w3.heap[W.heap.size+1+1]? = some (.cells #[plv] 80 (0,0)):=(G3.block _ (by have:=hput.out.fr.size; simp at this ⊢;omega) (fun e=>H5n.out e.symm)).trans ((jE _ _ (by have:=hput.out.fr.size; simp at this ⊢;omega)).trans ((hput.out.fr.block _ hlt5 H5f.out).trans HS.out.box))
       have c5':w3.cell? ⟨W.heap.size+1+1,0,none⟩=some plv:=by rw[jB h5];rfl
       have f5':w3.frozen? ⟨W.heap.size+1+1,0,none⟩=false:=jF h5 0
       have I3':Hid (IRow w3 (.slice (some ⟨g,0,none⟩) (ds.length+1) cap) (ds++[(putIn vs' (qq:Int)).idxOf (qq:Int)])):=I3
       have A3':Hid (plv.ownBlock=some g∨g=w2.heap.size+1):=by show _∨_; simpa using A3
       have G3':=jH G3
       clear h5 I3 A3 G3)
    | (go_simp; go_at_call 102; refine HC.mono ?_; rintro y w2 ⟨F'',D'',rfl,hput⟩
       have c5w:w2.cell? ⟨W.heap.size+1+1,0,none⟩=some plv:=by rw[jB ((hput.out.fr.block _ hlt5 H5f.out).trans HS.out.box)];rfl
       have n5w:∀ o,(w2.alloc o).cell? ⟨W.heap.size+1+1,0,none⟩=some plv:=fun o=>by rw[jB ((jE _ _ (by have:=hput.out.fr.size; simp at this; omega)).trans ((hput.out.fr.block _ hlt5 H5f.out).trans HS.out.box))];rfl
       have HI:Hid (IRow w2 plv ds):=jJ HRw.out (fun b e=>hput.out.fr.block b (jP HRw.out e) (HS.out.own b e).2)))
   all_goals
    have HT:=jH (take_step HS.out HQ.out hput.out HL5.out.1 HL5.out.2 (by rw[← HDS.out];exact I3'.out) G3'.out A3'.out)
    clear HI I3' A3' G3' hput c5' f5' c5 f5 c5w n5w
    go_wp2_with fail
    go_roundg (N - (k+1))
    case measure=>omega
    case rel=>exact⟨k+1,F'',D'',putIn vs' (qq:Int),_,by go_num,by omega,by omega,HT⟩
  ·have hkz:¬ ((k:Int)<(N:Int)):=by omega
   obtain rfl:k=N:=by omega
   have hsz:=HS.out.fr.size
   have hlow1:Below W0.heap.size W0 w1:=qL (F:=[]) H.out.low (by simp) (Fr.of_below HB1.out)
   have hlow:Below W0.heap.size W0 wr:=qL (F:=(W.heap.size+1+1)::F) hlow1 (by have:=H.out.low.size; intro b hb; simp at hb; rcases hb with rfl | hb; omega; exact H.out.hi b hb) HS.out.fr
   have HF5:Hid (W.heap.size+1+1∉F):=fun h=>by have:=H.out.wo.blt _ h; omega
   have hF2:W.heap.size∉F:=fun h=>by have:=H.out.wo.blt _ h; omega
   have hF3:W.heap.size+1∉F:=fun h=>by have:=H.out.wo.blt _ h; omega
   have hbx:wr.heap[W.heap.size]? = some (.cells #[.pointer (some ⟨p,0,none⟩)] 107 (0,0)) :=
    (HS.out.fr.block W.heap.size (by omega) (by intro hm; simp at hm; rcases hm with hm | hm; omega; exact hF2 hm)).trans X2.out
   have hb3:wr.heap[W.heap.size+1]? = some (.cells #[.pointer q] 26 (0,0)) :=
    (HS.out.fr.block (W.heap.size+1) (by omega) (by intro hm; simp at hm; exact hF3 hm)).trans X3.out
   have c3:wr.cell? ⟨W.heap.size+1,0,none⟩=some (.pointer q):=by rw[jB hb3];rfl
   have hall:∀ e∈exps x,e∈(Sr.parts x).take k:=fun e he=>by
    rw[List.take_of_length_le (by rw[← HN.out];omega)]
    exact mem_parts.2 (.here he)
   have hpl:=at_places (vs:=vs') hall
   have hal:=HAl.out.1
   have hself:=HSf wr hlow
   have hsr:=(HR.out wr hlow).srow
   have HC:=fun (o:Obj)=>take1_calls (C:=C) (W:=wr.alloc o) (p:=p) (F:=F') (D:=D') (vs:=vs') (gks:=gks) (m:=m+k) (HS.out.wo.alloc o) (bp:=W.heap.size+1+1) (bw:=W.heap.size) (pv:=plv) (v:=sv) (ds:=((Sr.parts x).take k).map fun (q:Nat)=>vs'.idxOf (q:Int)) (l:=atPl (Sr.parts x) x) x
    ((jE _ _ (by omega)).trans HS.out.box) ((jE _ _ (by omega)).trans hbx) (World.ownsRow.alloc HS.out.row o) (World.ownsRow.alloc hsr o) (fun e he=>HS.out.mem e (hall e he)) hpl.1 hpl.2 (by omega) (by unfold atPl; rw[List.length_map];omega)
   clear hlow hlow1 hbx hF2 hF3 hb3 hall hpl hal hsr HSf
   go_wp2_with fail
   refine hself.mono ?_
   rintro y w2 ⟨rfl,o2,rfl⟩
   clear hself
   go_wp2_with fail
   refine (HC o2).mono ?_
   rintro y w3 ⟨F'',D'',rfl,hput⟩
   go_wp2_with fail
   go_ret
   have hF'':∀ b∈F'',b∈F∨w1.heap.size≤b:=fun b hb=>by
    rcases hput.out.sub b hb with h | h | h
    ·exact HS.out.sub b h
    ·have:wr.heap.size+1≤b:=by simpa using h
     exact .inr (by omega)
    ·exact h.elim
   have hfr:Fr F W w3:=by
    have h1:=HB1.out
    have hs1:=h1.size
    refine⟨hput.out.fr.os.trans (HS.out.fr.os.trans h1.os),hput.out.fr.tape.trans (HS.out.fr.tape.trans h1.tape),hput.out.fr.output.trans (HS.out.fr.output.trans h1.output),by have:=hput.out.fr.size; simp at this; omega,fun b hb hn=>?_⟩
    rw[hput.out.fr.block b (by simp; omega) (fun h=>by rcases HS.out.sub b h with h | h; exact hn h; omega),jE _ _ (by omega),HS.out.fr.block b (by omega) (by intro hm; simp at hm; rcases hm with hm | hm; omega; exact hn hm)]
    exact h1.block b hb
   refine⟨F'',D'',putIn vs' x,rfl,qt _ _,HS.out.pre.trans (zK _ _),⟨?_,qL H.out.low H.out.hi hfr,fun b hb=>?_⟩,⟨hfr,fun b hb=>?_⟩⟩
   ·exact hput.out.wo.weaken (by have:=hput.out.wo.len; omega) hm
   ·have:=H.out.low.size
    rcases hF'' b hb with h | h
    ·exact H.out.hi b h
    ·omega
   ·rcases hF'' b hb with h | h
    ·exact .inl h
    ·exact .inr (by omega)
end
end Sr
namespace Sr
section
theorem maxl_append (a b:List Nat): maxl (a++b)=max (maxl a) (maxl b):=by
 induction a with
 | nil=>simp[maxl]
 | cons x a ih=>simp only[List.cons_append,maxl,ih];omega
def hts (es:List Nat): Nat:=maxl (es.map fun (e:Nat)=>height (e:Int)+1)
theorem hts_snoc (es:List Nat)(e:Nat): hts (es++[e])=max (hts es) (height (e:Int)+1):=by
 unfold hts; rw[List.map_append,maxl_append];simp[maxl]
theorem zA (x:Int): height x=hts (exps x):=qs x
def PartOr (a e:Nat): Prop:=e=a∨IsPart (a:Int) e
structure Wk (es ps:List Nat)(ok:Bool)(ps':List Nat)(ok':Bool)(r:Nat): Prop where
 pre:ps <+: ps'
 new:∀ e∈ps',e∈ps∨∃ a∈es,PartOr a e
 yes:ok'=true→ok=true∧(∀ e∈es,e∈ps')∧r=hts es
 no:ok=true→ok'=false→(∃ a∈es,∃ e,PartOr a e∧300<(form (e:Int)).length)∨2000≤ps'.length
 le:r≤hts es
structure HInv (vs:List Int)(ps:List Nat)(hh:Nat→Nat)(ok:Bool): Prop where
 nodup:ps.Nodup
 mem:∀ e∈ps,(e:Int)∈vs
 le:∀ e∈ps,hh e≤height (e:Int)
 good:ok=true→∀ e∈ps,hh e=height (e:Int)∧(form (e:Int)).length≤300∧∀ a∈exps (e:Int),a∈ps
theorem Wk.start (ps:List Nat)(ok:Bool): Wk [] ps ok ps ok 0 :=
 ⟨List.prefix_refl _,fun _ h=>.inl h,fun h=>⟨h,by simp,rfl⟩,fun h h'=>(by rw[h] at h'; cases h'),jR _⟩
theorem HInv.start (vs:List Int)(hh:Nat→Nat): HInv vs [] hh true:=⟨by simp,by simp,by simp,by simp⟩
variable {es ps ps1:List Nat} {ok:Bool} {r e:Nat} {vs:List Int}
theorem Wk.known {ok1:Bool}{hh:Nat→Nat}(h:Wk es ps ok ps1 ok1 r)(hi:HInv vs ps1 hh ok1)(he:e∈ps1): Wk (es++[e]) ps ok ps1 ok1 (max r (hh e+1)) where
 pre:=h.pre
 new:=fun a ha=>by
  rcases h.new a ha with q | ⟨b,q,q2⟩
  ·exact .inl q
  ·exact .inr ⟨b,by simp[q],q2⟩
 yes:=fun ho=>by
  obtain⟨q1,q2,q3⟩:=h.yes ho
  refine⟨q1,fun a ha=>?_,?_⟩
  ·rcases List.mem_append.1 ha with ha | ha
   ·exact q2 a ha
   ·simp at ha; exact ha▸he
  ·rw[hts_snoc,q3,(hi.good ho e he).1]
 no:=fun h1 h2=>by
  rcases h.no h1 h2 with ⟨a,q,q2⟩ | q
  ·exact .inl ⟨a,by simp[q],q2⟩
  ·exact .inr q
 le:=by have:=h.le; have:=hi.le e he; rw[hts_snoc];omega
theorem Wk.lost (h:Wk es ps ok ps1 false r): Wk (es++[e]) ps ok ps1 false (max r 1) where
 pre:=h.pre
 new:=fun a ha=>by
  rcases h.new a ha with q | ⟨b,q,q2⟩
  ·exact .inl q
  ·exact .inr ⟨b,by simp[q],q2⟩
 yes:=fun ho=>by cases ho
 no:=fun h1 h2=>by
  rcases h.no h1 h2 with ⟨a,q,q2⟩ | q
  ·exact .inl ⟨a,by simp[q],q2⟩
  ·exact .inr q
 le:=by have:=h.le; rw[hts_snoc];omega
theorem Wk.walked {ps2:List Nat}{ok3:Bool}{q:Nat}(h:Wk es ps ok ps1 true r)(hk:Wk (exps (e:Int)) ps1 (decide ((form (e:Int)).length≤300)&&decide (ps1.length<2000)) ps2 ok3 q):
 Wk (es++[e]) ps ok (ps2++[e]) ok3 (max r (q+1)) where
 pre:=h.pre.trans (hk.pre.trans (List.prefix_append _ _))
 new:=fun a ha=>by
  rcases List.mem_append.1 ha with ha | ha
  ·rcases hk.new a ha with ha | ⟨b,q1,q2⟩
   ·rcases h.new a ha with q1 | ⟨b,q1,q2⟩
    ·exact .inl q1
    ·exact .inr ⟨b,by simp[q1],q2⟩
   ·refine .inr ⟨e,by simp,.inr ?_⟩
    rcases q2 with rfl | q2
    ·exact .here q1
    ·exact IsPart.trans (.here q1) q2
  ·simp at ha; subst ha; exact .inr ⟨a,by simp,.inl rfl⟩
 yes:=fun ho=>by
  obtain⟨q1,q2,q3⟩:=h.yes rfl
  obtain⟨k1,k2,k3⟩:=hk.yes ho
  refine⟨q1,fun a ha=>?_,?_⟩
  ·rcases List.mem_append.1 ha with ha | ha
   ·exact List.mem_append.2 (.inl (hk.pre.subset (q2 a ha)))
   ·exact List.mem_append.2 (.inr ha)
  ·rw[hts_snoc,q3,k3,← zA]
 no:=fun h1 h2=>by
  by_cases hb:(decide ((form (e:Int)).length≤300)&&decide (ps1.length<2000))=true
  ·rcases hk.no hb h2 with ⟨a,q1,b,q2,q3⟩ | q1
   ·refine .inl ⟨e,by simp,b,.inr ?_,q3⟩
    rcases q2 with rfl | q2
    ·exact .here q1
    ·exact IsPart.trans (.here q1) q2
   ·refine .inr ?_; simp; omega
  ·have hb2:¬ ((form (e:Int)).length≤300∧ps1.length<2000):=by simpa using hb
   by_cases hl:(form (e:Int)).length≤300
   ·refine .inr ?_
    have:=hk.pre.length_le
    simp; omega
   ·exact .inl ⟨e,by simp,e,.inl rfl,by omega⟩
 le:=by have:=h.le; have:=hk.le; rw[hts_snoc,zA];omega
def upH (hh:Nat→Nat)(e q:Nat): Nat→Nat:=fun a=>if a=e then q else hh a
theorem HInv.walked {ps2:List Nat}{ok3:Bool}{q:Nat}{hh:Nat→Nat}(hn:e∉ps1)(he:(e:Int)∈vs)(hk:Wk (exps (e:Int)) ps1 (decide ((form (e:Int)).length≤300)&&decide (ps1.length<2000)) ps2 ok3 q)(hi:HInv vs ps2 hh ok3):
 e∉ps2∧HInv vs (ps2++[e]) (upH hh e q) ok3:=by
 have hn2:e∉ps2:=by
  intro h
  rcases hk.new e h with h | ⟨a,h1,h2⟩
  ·exact hn h
  ·have l1:=qz h1
   rcases h2 with h2 | h2
   ·omega
   ·have:=h2.lt; omega
 refine⟨hn2,?_,fun a ha=>?_,fun a ha=>?_,fun ho a ha=>?_⟩
 ·refine List.nodup_append.2 ⟨hi.nodup,by simp,fun a ha b hb=>?_⟩
  obtain rfl:b=e:=by simpa using hb
  rintro rfl; exact hn2 ha
 ·rcases List.mem_append.1 ha with ha | ha
  ·exact hi.mem a ha
  ·simp at ha; exact ha▸he
 ·unfold upH
  split
  ·rename_i h; subst h; have:=hk.le; rw[zA];exact this
  ·rcases List.mem_append.1 ha with ha | ha
   ·exact hi.le a ha
   ·simp at ha; contradiction
 ·unfold upH
  obtain⟨k1,k2,k3⟩:=hk.yes ho
  have hb2:(form (e:Int)).length≤300∧ps1.length<2000:=by simpa using k1
  split
  ·rename_i h; subst h
   exact⟨by rw[zA];exact k3,hb2.1,fun b hb=>List.mem_append.2 (.inl (k2 b hb))⟩
  ·rcases List.mem_append.1 ha with ha | ha
   ·obtain⟨g1,g2,g3⟩:=hi.good ho a ha
    exact⟨g1,g2,fun b hb=>List.mem_append.2 (.inl (g3 b hb))⟩
   ·simp at ha; contradiction
theorem yQ {a b:List Nat}(ha:a.Nodup)(hb:b.Nodup)(h:∀ x,x∈a↔x∈b): a.length=b.length :=
 Nat.le_antisymm (jT a b ha (fun x hx=>(h x).1 hx)) (jT b a hb (fun x hx=>(h x).2 hx))
theorem Wk.parts {vs:List Int}{x:Int}{ps:List Nat}{ok:Bool}{r:Nat}{hh:Nat→Nat}(h:Wk (exps x) [] true ps ok r)(hi:HInv vs ps hh ok)(ho:ok=true): ∀ e,e∈ps↔e∈parts x:=by
 intro e
 rw[mem_parts]
 constructor
 ·intro he
  rcases h.new e he with h | ⟨a,h1,h2⟩
  ·simp at h
  ·rcases h2 with rfl | h2
   ·exact .here h1
   ·exact IsPart.trans (.here h1) h2
 ·intro he
  induction he with
  | here h1=>exact (h.yes ho).2.1 _ h1
  | step _ h1 ih=>exact (hi.good ho _ ih).2.2 _ h1
theorem Wk.allowed {vs:List Int}{x:Int}{ps:List Nat}{ok:Bool}{r:Nat}{hh:Nat→Nat}(hx:(form x).length≤300)(h:Wk (exps x) [] true ps ok r)(hi:HInv vs ps hh ok):
 allowed x↔ok=true∧ps.length+1≤2000∧r≤100:=by
 constructor
 ·rintro⟨a1,a2,a3,a4⟩
  have ho:ok=true:=by
   cases hok:ok with
   | true=>rfl
   | false =>
     exfalso
     rcases h.no rfl hok with ⟨a,h1,e,h2,h3⟩ | h1
     ·have hp:IsPart x e:=by
       rcases h2 with rfl | h2
       ·exact .here h1
       ·exact IsPart.trans (.here h1) h2
      have:=a2 e (mem_parts.2 hp);omega
     ·have:=jT ps (Sr.parts x) hi.nodup (fun e he=>mem_parts.2 (by
       rcases h.new e he with q | ⟨a,h1,h2⟩
       ·simp at q
       ·rcases h2 with rfl | h2
        ·exact .here h1
        ·exact IsPart.trans (.here h1) h2))
      omega
  have hl:=yQ hi.nodup (qE x) (h.parts hi ho)
  exact⟨ho,by omega,by rw[(h.yes ho).2.2,← zA];exact a4⟩
 ·rintro⟨ho,h1,h2⟩
  have hl:=yQ hi.nodup (qE x) (h.parts hi ho)
  refine⟨hx,fun p hp=>(hi.good ho p ((h.parts hi ho p).2 hp)).2.1,by omega,?_⟩
  rw[zA,← (h.yes ho).2.2];exact h2
theorem hts_idx (hv:WV vs): ∀ (i:Nat) (x:Int),vs[i]? = some x→height x≤i:=by
 intro i
 induction i using Nat.strongRecOn with
 | _ i ih =>
   intro x hx
   rw[zA]
   unfold hts
   have key:∀ l:List Nat,(∀ e∈l,e∈exps x)→maxl (l.map fun (e:Nat)=>height (e:Int)+1)≤i:=by
    intro l
    induction l with
    | nil=>intro _; simp[maxl]
    | cons e l ihl =>
      intro hl
      obtain⟨k,hk,hk2⟩:=hv.closed i x hx e (hl e (by simp))
      have h1:=ih k hk _ hk2
      have h2:=ihl fun a ha=>hl a (List.mem_cons_of_mem _ ha)
      simp only[List.map_cons,maxl];omega
   exact key _ fun _ h=>h
theorem height_lt (hv:WV vs)(h:(e:Int)∈vs): height (e:Int)<vs.length:=by
 have:=hts_idx hv _ _ (jU h);have:=zR h; omega
end
end Sr
namespace Sr
open Go Go.Proofs Go.RowKit Go.Maps Go.WideMaps
structure GB (C:List Nat)(w1:World)(p:Nat)(F:List Nat)(D:WD)(vs:List Int)(gk:List Nat)(m b6 b8 b2 b7 b9 mh:Nat): Prop where
 wo:WO C w1 p F D vs gk m
 bh:w1.heap[b6]? = some (.cells #[.map (some mh)] 122 (0,0))
 bw:w1.heap[b2]? = some (.cells #[.pointer (some ⟨p,0,none⟩)] 107 (0,0))
 bk:w1.heap[b9]? = some (.cells #[.func (.func 95) #[] #[.pointer (some ⟨b6,0,none⟩),.pointer (some ⟨b8,0,none⟩),.pointer (some ⟨b2,0,none⟩),.pointer (some ⟨b7,0,none⟩),.pointer (some ⟨b9,0,none⟩)]] 126 (0,0))
 n7:b7∉F
 n8:b8∉F
 nm:mh∉F
 l7:b7<w1.heap.size
 l8:b8<w1.heap.size
 lm:mh<w1.heap.size
 t7:∃ c,w1.heap[b7]? = some (.cells c 80 (0,0))
 t8:∃ c,w1.heap[b8]? = some (.cells c 4 (0,0))
 tm:∃ es cl,w1.heap[mh]? = some (.map es cl)
def hmap (vs:List Int)(ps:List Nat)(hh:Nat→Nat)(f:Value→Option Value): Prop :=
 ∀ k v,f k=some v↔∃ e∈ps,k=.int .i64 (vs.idxOf (e:Int):Nat)∧v=.int .i64 (hh e:Nat)
structure GS (w1:World)(vs:List Int)(b8 b7 mh:Nat)(ps:List Nat)(hh:Nat→Nat)(ok:Bool)(plv:Value)(wr:World): Prop where
 inv:HInv vs ps hh ok
 fr:Fr [b7,b8,mh] w1 wr
 bo:wr.heap[b8]? = some (.cells #[.bool ok] 4 (0,0))
 bp:wr.heap[b7]? = some (.cells #[plv] 80 (0,0))
 row:IRow wr plv (ps.map fun (e:Nat)=>vs.idxOf (e:Int))
 own:∀ b,plv.ownBlock=some b→w1.heap.size≤b
 map:∃ f,MapF Tryz.prog 3 wr mh f∧hmap vs ps hh f
def GO (b7 b8 mh:Nat)(plv:Value): List Nat:=b7::b8::mh::plv.ownBlock.toList
theorem mem_GO {b7 b8 mh b:Nat}{plv:Value}: b∈GO b7 b8 mh plv↔b=b7∨b=b8∨b=mh∨plv.ownBlock=some b:=by simp[GO]
section
variable {C:List Nat} {w1 wr:World} {p:Nat} {F:List Nat} {D:WD} {vs:List Int} {gk:List Nat} {m b6 b8 b2 b7 b9 mh:Nat} {ps:List Nat} {hh:Nat→Nat} {ok:Bool} {plv:Value}
theorem GB.wo' (B:GB C w1 p F D vs gk m b6 b8 b2 b7 b9 mh)(hf:Fr [b7,b8,mh] w1 wr): WO C wr p F D vs gk m :=
 B.wo.kept fun b hb=>hf.block b (B.wo.blt b hb) (by
  intro h; simp at h
  rcases h with rfl | rfl | rfl
  ·exact B.n7 hb
  ·exact B.n8 hb
  ·exact B.nm hb)
theorem GB.keep (B:GB C w1 p F D vs gk m b6 b8 b2 b7 b9 mh)(hf:Fr [b7,b8,mh] w1 wr){b:Nat}{c:Array Value}{T:TypeId}{z:Nat×Nat}(hb:w1.heap[b]? = some (.cells c T z))(h80:T≠80)(h4:T≠4): wr.heap[b]? = some (.cells c T z):=by
 rw[hf.block b (jA hb).1 ?_];exact hb
 intro h; simp at h
 rcases h with rfl | rfl | rfl
 ·obtain⟨c',h'⟩:=B.t7; rw[hb] at h'; cases h'; exact h80 rfl
 ·obtain⟨c',h'⟩:=B.t8; rw[hb] at h'; cases h'; exact h4 rfl
 ·obtain⟨es,cl,h'⟩:=B.tm; rw[hb] at h'; cases h'
theorem GB.trow (B:GB C w1 p F D vs gk m b6 b8 b2 b7 b9 mh)(hf:Fr [b7,b8,mh] w1 wr){v:Value}{l:List PT}(h:TRow w1 v l): TRow wr v l :=
 jJ h fun b e=>by
  obtain⟨c,hc⟩:=jO h e
  rw[B.keep hf hc (by decide) (by decide),hc]
theorem GS.below (S:GS w1 vs b8 b7 mh ps hh ok plv wr){w':World}(hb:Below wr.heap.size wr w'): GS w1 vs b8 b7 mh ps hh ok plv w' where
 inv:=S.inv
 fr:=⟨hb.os.trans S.fr.os,hb.tape.trans S.fr.tape,hb.output.trans S.fr.output,Nat.le_trans S.fr.size hb.size,fun b h1 h2=>(hb.block b (Nat.lt_of_lt_of_le h1 S.fr.size)).trans (S.fr.block b h1 h2)⟩
 bo:=(hb.block b8 (jA S.bo).1).trans S.bo
 bp:=(hb.block b7 (jA S.bp).1).trans S.bp
 row:=jK S.row hb
 own:=S.own
 map:=by obtain⟨f,h1,h2⟩:=S.map; exact⟨f,h1.kept (hb.block _ h1.lt),h2⟩
theorem GS.look (S:GS w1 vs b8 b7 mh ps hh ok plv wr){e:Nat}(hv:vs.length≤2147483648)(he:(e:Int)∈vs):
 (e∈ps∧∀ w',w'.heap[mh]? = wr.heap[mh]?→(Instr.lookup 122 (.map (some mh)) (.int .i64 (vs.idxOf (e:Int):Nat)) true).run Tryz.prog w'=.ok (.tuple #[.int .i64 (hh e:Nat),.bool true]) w') ∨
 (e∉ps∧∀ w',w'.heap[mh]? = wr.heap[mh]?→(Instr.lookup 122 (.map (some mh)) (.int .i64 (vs.idxOf (e:Int):Nat)) true).run Tryz.prog w'=.ok (.tuple #[.int .i64 0,.bool false]) w'):=by
 obtain⟨f,h1,h2⟩:=S.map
 have hl:keyOf Tryz.prog 3 (.int .i64 (vs.idxOf (e:Int):Nat))=some (.int .i64 (vs.idxOf (e:Int):Nat)):=keyInt (wfNat (by have:=zR he; omega))
 by_cases hm:e∈ps
 ·refine .inl ⟨hm,fun w' hw=>?_⟩
  have hf:f (.int .i64 (vs.idxOf (e:Int):Nat))=some (.int .i64 (hh e:Nat)):=(h2 _ _).2 ⟨e,hm,rfl,rfl⟩
  have:=(h1.kept hw).look true law3 Tryz.underlying122 (zero3 w') hl
  simpa [hf] using this
 ·refine .inr ⟨hm,fun w' hw=>?_⟩
  have hf:f (.int .i64 (vs.idxOf (e:Int):Nat))=none:=by
   cases hfx:f (.int .i64 (vs.idxOf (e:Int):Nat)) with
   | none=>rfl
   | some v =>
     obtain⟨e',h3,h4,_⟩:=(h2 _ _).1 hfx
     have h5:vs.idxOf (e:Int)=vs.idxOf (e':Int):=by
      have:=Value.int.inj h4; omega
     have h6:=jU he
     rw[h5,jU (S.inv.mem e' h3)] at h6
     have h7:(e':Int)=e:=Option.some.inj h6
     have:e'=e:=by omega
     exact absurd (this▸h3) hm
  have:=(h1.kept hw).look true law3 Tryz.underlying122 (zero3 w') hl
  simpa [hf] using this
theorem HInv.weak {ok':Bool}(h:HInv vs ps hh ok)(ho:ok'=true→ok=true): HInv vs ps hh ok':=⟨h.nodup,h.mem,h.le,fun h'=>h.good (ho h')⟩
theorem GS.setOk (B:GB C w1 p F D vs gk m b6 b8 b2 b7 b9 mh)(S:GS w1 vs b8 b7 mh ps hh ok plv wr)(ok':Bool)(ho:ok'=true→ok=true): GS w1 vs b8 b7 mh ps hh ok' plv (wr.setCell ⟨b8,0,none⟩ (.bool ok')):=by
 have n78:b7≠b8:=jI S.bp S.bo (by decide)
 have hk:∀ b,b≠b8→(wr.setCell ⟨b8,0,none⟩ (.bool ok')).heap[b]? = wr.heap[b]?:=fun b hb=>jS _ _ _ _ hb
 have _:=B
 refine⟨S.inv.weak ho,⟨S.fr.os,S.fr.tape,S.fr.output,by have:=S.fr.size; simpa using this,fun b h1 h2=>?_⟩,heap_setCell_same wr b8 0 _ 4 _ S.bo,(hk _ n78).trans S.bp,?_,S.own,?_⟩
 ·rw[hk b (by rintro rfl; simp at h2)];exact S.fr.block b h1 h2
 ·exact jJ S.row fun b e=>hk b (by
   obtain⟨c,hc⟩:=jO S.row e
   exact jI hc S.bo (by decide))
 ·obtain⟨f,h1,h2⟩:=S.map
  exact⟨f,h1.kept (hk _ (qD ⟨_,_,_,S.bo⟩ h1).symm),h2⟩
theorem GS.pushed (_B:GB C w1 p F D vs gk m b6 b8 b2 b7 b9 mh)(S:GS w1 vs b8 b7 mh ps hh ok plv wr){e q:Nat}(hv:vs.length≤2147483648)(he:(e:Int)∈vs)(hi:HInv vs (ps++[e]) (upH hh e q) ok)(hn:e∉ps):
 ∃ W4,(Instr.mapUpdate 122 (.map (some mh)) (.int .i64 (vs.idxOf (e:Int):Nat)) (.int .i64 (q:Nat))).run Tryz.prog wr=.ok () W4∧W4.heap.size=wr.heap.size∧(∀ (b:Nat) (c:Array Value) (T:TypeId) (z:Nat×Nat),wr.heap[b]? = some (Obj.cells c T z)→W4.heap[b]? = some (Obj.cells c T z)) ∧
  IRow W4 plv (ps.map fun (e:Nat)=>vs.idxOf (e:Int)) ∧
  ∀ (w3:World) (g n1 cap:Nat) (o:Obj),IRow w3 (.slice (some ⟨g,0,none⟩) n1 cap) ((ps.map fun (e:Nat)=>vs.idxOf (e:Int))++[vs.idxOf (e:Int)])→(W4.alloc o).grownBy w3 plv.ownBlock→(plv.ownBlock=some g∨g=W4.heap.size+1) →
   GS w1 vs b8 b7 mh (ps++[e]) (upH hh e q) ok (.slice (some ⟨g,0,none⟩) n1 cap) (w3.setCell ⟨b7,0,none⟩ (.slice (some ⟨g,0,none⟩) n1 cap)) ∧
   FE (GO b7 b8 mh plv) wr (GO b7 b8 mh (.slice (some ⟨g,0,none⟩) n1 cap)) (w3.setCell ⟨b7,0,none⟩ (.slice (some ⟨g,0,none⟩) n1 cap)) ∧
   w3.cell? ⟨b7,0,none⟩=some plv∧w3.frozen? ⟨b7,0,none⟩=false:=by
 obtain⟨f,f1,f2⟩:=S.map
 have hl:keyOf Tryz.prog 3 (.int .i64 (vs.idxOf (e:Int):Nat))=some (.int .i64 (vs.idxOf (e:Int):Nat)):=keyInt (wfNat (by have:=zR he; omega))
 obtain⟨W4,hrun,M4,s4,G4⟩:=f1.store law3 Tryz.underlying122 (v:=.int .i64 (q:Nat)) hl
 have k4:∀ b,b<wr.heap.size→b≠mh→W4.heap[b]? = wr.heap[b]?:=fun b hb hne=>G4.block b hb (by intro e; cases e; exact hne rfl)
 have cellk:∀ (b:Nat) (c:Array Value) (T:TypeId) (z:Nat×Nat),wr.heap[b]? = some (Obj.cells c T z)→W4.heap[b]? = some (Obj.cells c T z):=fun b c T z hb=>by
  rw[k4 b (jA hb).1 (qD ⟨_,_,_,hb⟩ f1)];exact hb
 have row4:IRow W4 plv (ps.map fun (e:Nat)=>vs.idxOf (e:Int)):=jJ S.row fun b e'=>by
  obtain⟨c,hc⟩:=jO S.row e'
  rw[cellk _ _ _ _ hc,hc]
 refine⟨W4,hrun,s4,cellk,row4,fun w3 g n1 cap o hI hg hat=>?_⟩
 have b4o:=cellk _ _ _ _ S.bo
 have b4p:=cellk _ _ _ _ S.bp
 have hsz:=S.fr.size
 have hne7:plv.ownBlock≠some b7:=fun e'=>by
  obtain⟨c,hc⟩:=jO S.row e'
  exact jI hc S.bp (by decide) rfl
 have hne8:plv.ownBlock≠some b8:=fun e'=>by
  obtain⟨c,hc⟩:=jO S.row e'
  exact jI hc S.bo (by decide) rfl
 have hnem:plv.ownBlock≠some mh:=fun e'=>by
  obtain⟨c,hc⟩:=jO S.row e'
  exact qD ⟨_,_,_,hc⟩ f1 rfl
 have n78:b8≠b7:=jI S.bo S.bp (by decide)
 have lo:b8<W4.heap.size:=(jA b4o).1
 have lp:b7<W4.heap.size:=(jA b4p).1
 have keep:∀ b,b<W4.heap.size→plv.ownBlock≠some b→b≠b7→(w3.setCell ⟨b7,0,none⟩ (.slice (some ⟨g,0,none⟩) n1 cap)).heap[b]? = W4.heap[b]?:=fun b h1 h2 h3 =>
  (jS _ _ _ _ h3).trans ((hg.block b (by simp; omega) (fun e=>h2 e.symm)).trans (jE _ _ h1))
 have h7:w3.heap[b7]? = some (.cells #[plv] 80 (0,0)):=by
  rw[hg.block b7 (by simp; omega) (fun e=>hne7 e.symm),jE _ _ lp];exact b4p
 have hfe:FE (GO b7 b8 mh plv) wr (GO b7 b8 mh (.slice (some ⟨g,0,none⟩) n1 cap)) (w3.setCell ⟨b7,0,none⟩ (.slice (some ⟨g,0,none⟩) n1 cap)):=by
  refine⟨⟨(show w3.os=W4.os from hg.os).trans G4.os,(show w3.tape=W4.tape from hg.tape).trans G4.tape,(show w3.output=W4.output from hg.output).trans G4.output,by have:=hg.size; simp at this ⊢;omega,fun b h1 h2=>?_⟩,fun b hb=>?_⟩
  ·rw[mem_GO] at h2
   rw[keep b (by omega) (fun e'=>h2 (.inr (.inr (.inr e')))) (fun e'=>h2 (.inl e')),k4 b h1 (fun e'=>h2 (.inr (.inr (.inl e'))))]
  ·rw[mem_GO] at hb ⊢
   rcases hb with hb | hb | hb | hb
   ·exact .inl (.inl hb)
   ·exact .inl (.inr (.inl hb))
   ·exact .inl (.inr (.inr (.inl hb)))
   ·have hb':b=g:=by simpa [Value.ownBlock] using hb.symm
    subst hb'
    rcases hat with h | h
    ·exact .inl (.inr (.inr (.inr h)))
    ·exact .inr (by omega)
 refine⟨?_,hfe,by rw[jB h7];rfl,jF h7 0⟩
 refine⟨hi,?_,(keep _ lo hne8 n78).trans b4o,heap_setCell_same w3 b7 0 _ 80 _ h7,?_,?_,?_⟩
 ·refine⟨(show w3.os=W4.os from hg.os).trans (G4.os.trans S.fr.os),(show w3.tape=W4.tape from hg.tape).trans (G4.tape.trans S.fr.tape),(show w3.output=W4.output from hg.output).trans (G4.output.trans S.fr.output),by have:=hg.size; simp at this ⊢;omega,fun b h1 h2=>?_⟩
  have h2':b≠b7∧b≠b8∧b≠mh:=by simpa using h2
  rw[keep b (by omega) (fun e'=>by have:=S.own b e'; omega) h2'.1,k4 b (by omega) h2'.2.2]
  exact S.fr.block b h1 h2
 ·rw[List.map_append]
  exact jJ hI fun b hb=>jS _ _ _ _ (by
   show b≠b7
   intro e5
   obtain⟨c,hc⟩:=jO hI hb
   exact jI hc h7 (by decide) e5)
 ·intro b hb
  have hb':b=g:=by simpa [Value.ownBlock] using hb.symm
  subst hb'
  rcases hat with h | h
  ·exact S.own b h
  ·omega
 ·refine⟨_,M4.kept (keep mh (by have:=f1.lt; omega) hnem (qD ⟨_,_,_,S.bp⟩ f1).symm),fun k v=>?_⟩
  unfold updF
  by_cases hk:k=.int .i64 (vs.idxOf (e:Int):Nat)
  ·rw[if_pos hk]
   constructor
   ·intro h; cases h; exact⟨e,by simp,hk,by unfold upH; rw[if_pos rfl]⟩
   ·rintro⟨e',h1,h2,rfl⟩
    have:e'=e:=by
     rw[hk] at h2
     have h5:vs.idxOf (e:Int)=vs.idxOf (e':Int):=by have:=Value.int.inj h2; omega
     have h6:=jU he
     rw[h5,jU (hi.mem e' h1)] at h6
     have h7:(e':Int)=e:=Option.some.inj h6
     omega
    subst this
    unfold upH; rw[if_pos rfl]
  ·rw[if_neg hk,f2]
   constructor
   ·rintro⟨e',h1,h2,rfl⟩
    exact⟨e',by simp[h1],h2,by unfold upH; rw[if_neg];rintro rfl; exact hn h1⟩
   ·rintro⟨e',h1,h2,rfl⟩
    rcases List.mem_append.1 h1 with h3 | h3
    ·exact⟨e',h3,h2,by unfold upH; rw[if_neg];intro e5; exact hn (e5▸h3)⟩
    ·simp at h3; subst h3; exact absurd h2 hk
end
end Sr

