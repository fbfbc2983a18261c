/- Texts of this claim, joined: NextW, Sum2, Conc, Sign, RCmp, RPl. -/
import Derived.Test.YtabafgphmbdpgaaGreatDoorTd1
import Derived.Test.YtabafgphmbdpgaaGreatDoorTd3
import Derived.Test.YtabafgphmbdpgaaGreatDoorTd4
import Derived.Test.YtabafgphmbdpgaaGreatDoorTd11
import Derived.Lib.AppendZeros
import Derived.Deep.Upon
set_option maxHeartbeats 8000000
set_option maxRecDepth 100000
namespace Sr
open Go Go.Proofs Go.RowKit Go.Maps Go.WideMaps Go.Sort
section
variable {e:Nat}
section
variable {C:List Nat} {W:World} {p:Nat} {F:List Nat} {D:WD} {vs:List Int} {gk:List Nat} {m:Nat}
theorem WO.lookGrt (h:WO C W p F D vs gk m){a:Nat}(ha:vs[a]? = some (e:Int)):
 (e∉gk∧∀ W',W'.heap[D.mg]? = W.heap[D.mg]?→(Instr.lookup 122 (.map (some D.mg)) (.int .i64 (a:Nat)) true).run Tryz.prog W'=.ok (.tuple #[.int .i64 0,.bool false]) W') ∨
 (∃ b:Nat,vs[b]? = some ((e+1:Nat):Int)∧∀ W',W'.heap[D.mg]? = W.heap[D.mg]?→(Instr.lookup 122 (.map (some D.mg)) (.int .i64 (a:Nat)) true).run Tryz.prog W'=.ok (.tuple #[.int .i64 (b:Nat),.bool true]) W'):=by
 have hv:=h.vlen
 have la:a<vs.length:=(jL ha).1
 have hl:=keyInt (wfNat (a:=a) (by omega))
 obtain⟨f,h1,h2,h3⟩:=h.grt
 cases hf:f (.int .i64 (a:Nat)) with
 | none =>
   left
   refine⟨fun he=>?_,fun W' hW=>by have:=(h1.kept hW).look true law3 Tryz.underlying122 (zero3 W') hl; simpa [hf] using this⟩
   obtain⟨i,k1,k2⟩:=h3 e he
   have:i=a:=(h.wv.idx_get k1).symm.trans (h.wv.idx_get ha)
   subst this
   exact k2 hf
 | some v =>
   right
   obtain⟨i,j,e',k1,k2,k3,rfl,_⟩:=h2 _ _ hf
   have e1:(a:Int)=i:=by simpa using k3
   have e2:i=a:=by omega
   subst e2
   rw[ha] at k1
   have e3:e'=e:=by have:=Option.some.inj k1; omega
   subst e3
   exact⟨j,by rw[k2];simp,fun W' hW=>by have:=(h1.kept hW).look true law3 Tryz.underlying122 (zero3 W') hl; simpa [hf] using this⟩
theorem WO.setGrt (h:WO C W p F D vs gk (m+1)){a b:Nat}(ha:vs[a]? = some (e:Int))(hb:vs[b]? = some ((e+1:Nat):Int))(he:e∉gk)(hC:e∈C):
 ∃ W3,(Instr.mapUpdate 122 (.map (some D.mg)) (.int .i64 (a:Nat)) (.int .i64 (b:Nat))).run Tryz.prog W=.ok () W3∧WO C W3 p F D vs (e::gk) m∧Fr F W W3:=by
 have hv:=h.vlen
 have la:a<vs.length:=(jL ha).1
 have hl:=keyInt (wfNat (a:=a) (by omega))
 obtain⟨f,h1,h2,h3⟩:=h.grt
 obtain⟨W3,hrun,hm,hs,hg⟩:=h1.store law3 Tryz.underlying122 (v:=.int .i64 (b:Nat)) hl
 have hk:∀ b,b<W.heap.size→b≠D.mg→W3.heap[b]? = W.heap[b]?:=fun b hb hn=>hg.block b hb (by intro e; cases e; exact hn rfl)
 have hlen:=h.len
 have hbnd:=h.bnd
 have hw:WO C W3 p F D vs (e::gk) (m+1):=h.maps (fun b hbF hc=>hk b (h.blt b hbF) (qD hc h1)) (by omega)
  (by obtain⟨f,k1,k2⟩:=h.plc; exact⟨f,k1.kept (hk _ k1.lt h.ne.1),k2⟩)
  (by
    refine⟨_,hm,fun k v hkv=>?_,fun e' he'=>?_⟩
    ·unfold updF at hkv
     split at hkv
     ·rename_i e1; cases hkv; exact⟨a,b,e,ha,by rw[hb];simp,e1,rfl,by simp⟩
     ·obtain⟨i,j,e',k1,k2,k3,k4,k5⟩:=h2 k v hkv
      exact⟨i,j,e',k1,k2,k3,k4,List.mem_cons_of_mem _ k5⟩
    ·unfold updF
     rcases List.mem_cons.1 he' with rfl | he'
     ·exact⟨a,ha,by rw[if_pos rfl];simp⟩
     ·obtain⟨i,k1,k2⟩:=h3 e' he'
      refine⟨i,k1,?_⟩
      split
      ·simp
      ·exact k2)
  (by obtain⟨f,k1,k2⟩:=h.ord; exact⟨f,k1.kept (hk _ k1.lt h.ne.2.2.symm),k2⟩)
  (List.nodup_cons.2 ⟨he,h.gnd⟩) (fun e' he'=>by rcases List.mem_cons.1 he' with rfl | he'; exact hC; exact h.cov e' he') (by simp; omega)
 refine⟨W3,hrun,hw.weaken (by simp; omega) (by omega),Fr.of_grown hg (by omega) h.inF.2.2.1⟩
end
theorem ptv_next {vs:List Int}(h:WV vs)(he:(e:Int)∈vs): ptv vs (pf vs (e:Int)++[(false,0)])=((e+1:Nat):Int):=by
 rw[ptv_append,ptv_pf h (fun x hx=>h.mem_exps he hx)]
 have:ptv vs [(false,0)]=1:=by
  simp[ptv,lv,tv,zE h.zero]
 rw[this];simp
theorem next_step {C:List Nat}{p m J:Nat}{P:List Nat}(hB:Base P J)(hJ:J≤4096)(hC:∀ q∈P,∀ j,j≤J→q+j∈C)(hm:m+1+C.length≤2147483648)(e:Nat)(hch:∃ q∈P,∃ j,j<J∧e=q+j) 
 (ih:∀ x,x<e→(∃ q∈P,∃ j,j<J∧x=q+j)→NextC C p m x):NextC C p m e:=by
 intro W F D vs gk a H ha
 have Ha:Hid (vs[a]? = some (e:Int)):=ha
 have la:a<vs.length:=(jL ha).1
 have laz:(a:Int)<(vs.length:Int):=by omega
 have a0:(0:Int)≤(a:Int):=by omega
 have hc2:=H.out.c2
 rcases H.out.lookGrt ha with ⟨hn,HL⟩ | ⟨b,hb,HL⟩
 ·have hlk:=HL W rfl
  have hmem:(e:Int)∈vs:=jM ha
  obtain⟨g,cap,hfv,hgF,hrow⟩:=H.out.formAt
  obtain⟨va,_,cva,hva,_⟩:=hrow a e ha
  have hp0:W.cell? ⟨p,0,none⟩=some (.slice (some ⟨g,0,none⟩) vs.length cap):=by rw[← hfv];exact H.out.c0
  have hfl:(pf vs (e:Int)).length+2≤1024:=by
   obtain⟨q,hq,j,hj,rfl⟩:=hch
   have:=hB.len q hq j (by omega)
   unfold pf; rw[List.length_map];omega
  have HCl:=zX hva (by omega)
  have HSum:Hid (∀ (w2:World) (v2:Value),WO C w2 p F D vs gk m→TRow w2 v2 (pf vs (e:Int)++[(false,0)]) →
   Calls Tryz.prog 104 #[.pointer (some ⟨p,0,none⟩),v2] w2 fun x W'=>∃ (F':List Nat) (D':WD) (vs':List Int) (gk':List Nat) (v':Value),x=.returned v'∧Hid (TRow W' v' (pf vs' ((e+1:Nat):Int)))∧Hid (∀ x∈exps ((e+1:Nat):Int),(x:Int)∈vs') ∧
    Hid (∀ b,v'.ownBlock=some b→w2.heap.size≤b∧b∉F')∧Hid (Gw C w2 W' p F F' D' vs vs' gk gk' m e)):=fun w2 v2 hw hr=>by
   have hT:=ptv_next hw.wv hmem
   have:=sum_calls (P:=P) (N:=e) (J:=J) hw v2 _ hr hJ (by
    obtain⟨q,hq,j,hj,hqe⟩:=hch
    have:=hB.len q hq j (by omega)
    rw[← hqe] at this
    simp only[List.length_append,List.length_map,List.length_cons,List.length_nil,pf];omega)
    (fun t ht=>by
      rcases List.mem_append.1 ht with ht | ht
      ·obtain⟨u,hu,rfl⟩:=List.mem_map.1 ht
       have hx:=mem_exps hu
       refine⟨u.2,jU (hw.wv.mem_exps hmem hx),?_,Nat.le_of_lt (qz hx)⟩
       obtain⟨q,hq,j,hj,rfl⟩:=hch
       exact hB.exps q hq j (by omega) _ hx
      ·obtain rfl:t=(false,0):=by simpa using ht
       exact⟨0,hw.wv.zero,hB.zero,Nat.zero_le _⟩)
    (fun x hx=>by
      rw[hT] at hx
      have:=Nat.lt_two_pow_self (n:=x)
      have h2:(((e+1:Nat):Int)).natAbs=e+1:=by omega
      omega)
    ih
   rw[hT] at this
   refine this.mono ?_
   rintro x W' ⟨F',D',vs',gk',v',rfl,k1,k2,k3,k4⟩
   refine⟨F',D',vs',gk',v',rfl,k1,fun y hy=>?_,k3,k4⟩
   obtain⟨t,ht,rfl⟩:=List.mem_map.1 hy
   exact k2.out t ht
  have hCe:Hid (e∈C):=by
   obtain⟨q,hq,j,hj,rfl⟩:=hch
   exact hC q hq j (by omega)
  have HM:Hid (m+1+C.length≤2147483648):=hm
  clear HL hrow hva ih hB hC hJ hm hch
  go_enter Tryz.func134,Tryz.ntmps134
  go_wp2_with fail
  refine HCl.mono ?_
  rintro x w1 ⟨v1,rfl,hr1,hb1,ho1⟩
  have hol:(pf vs (e:Int)).length+1≤1099511627776:=by omega
  have HR1:Hid (∀ o,TRow (w1.alloc o) v1 (pf vs (e:Int))):=fun o=>World.ownsRow.alloc hr1.out o
  have HB1:Hid (∀ o,Below W.heap.size W (w1.alloc o)):=fun o=>hb1.out.alloc hb1.out.size o
  clear HCl hr1
  go_wp2_with (at_builtin; go_loud (refine app_T1 rfl _ _ rfl v1 (pf vs (e:Int)) rfl (HR1.out _) w1.heap.size (false,0) rfl (jD _ _) hol ?_);intro v2 w2 K2 G2 N2 A2)
  have hb2:Below W.heap.size W w2:=(HB1.out _).grown G2 (HB1.out _).size (fun b hb=>ho1.out b hb)
  have hw2:WO C w2 p F D vs gk m:=H.out.below hb2
  have HS:=HSum.out w2 v2 hw2 K2
  have HF2:Hid (Fr F W w2):=Fr.of_below hb2
  clear hb2 hw2 K2 G2 N2 A2 HSum HR1 HB1 ho1 hb1
  refine HS.mono ?_
  rintro x w3 ⟨F3,D3,v3s,g3,v3,rfl,hr3,hx3,ho3,hg3⟩
  have HI:=id_calls hg3.out.wo v3 ((e+1:Nat):Int) hx3.out hr3.out HM.out
  clear HS hr3 hx3
  go_wp2_with fail
  refine HI.mono ?_
  rintro x w4 ⟨F4,D4,rfl,hput⟩
  have hpre4:vs <+: putIn v3s ((e+1:Nat):Int):=hg3.out.pre.trans (zK _ _)
  have hen:e∉g3:=fun h=>by rcases hg3.out.new e h with h1 | h1; exact hn h1; omega
  obtain⟨W5,hrun,HW5,HF5⟩:=hput.out.wo.setGrt (a:=a) (b:=(putIn v3s ((e+1:Nat):Int)).idxOf ((e+1:Nat):Int)) (e:=e) (jW hpre4 ha) (jU (qt _ _)) hen hCe.out
  have hA:FE F W F3 w3:=FE.trans ⟨HF2.out,fun _ hb=>.inl hb⟩ ⟨hg3.out.fr,hg3.out.sub⟩
  have hBB:FE F W F3 w4:=FE.trans hA ⟨hput.out.fr,fun _ hb=>.inl hb⟩
  have hCC:FE F W F4 w4:=⟨hBB.fr,fun b hb=>by
   rcases hput.out.sub b hb with h1 | h1 | h1
   ·exact hA.sub b h1
   ·exact .inr (Nat.le_trans hA.fr.size h1)
   ·exact .inr (Nat.le_trans HF2.out.size (ho3.out b h1).1)⟩
  have hDD:FE F W F4 W5:=FE.trans hCC ⟨HF5,fun _ hb=>.inl hb⟩
  have HQ:Hid (Gw C W W5 p F F4 D4 vs (putIn v3s ((e+1:Nat):Int)) gk (e::g3) m (e+1)):=⟨HW5,hDD.fr,hDD.sub,hpre4,fun y hy=>by
   rcases List.mem_cons.1 hy with rfl | hy
   ·exact .inr (Nat.lt_succ_self _)
   ·rcases hg3.out.new y hy with h1 | h1
    ·exact .inl h1
    ·exact .inr (by omega)⟩
  have hc2':=hput.out.wo.c2
  have HP:Hid ((putIn v3s ((e+1:Nat):Int))[(putIn v3s ((e+1:Nat):Int)).idxOf ((e+1:Nat):Int)]? = some ((e+1:Nat):Int)):=jU (qt _ _)
  generalize (putIn v3s ((e+1:Nat):Int)).idxOf ((e+1:Nat):Int)=bb at *
  generalize putIn v3s ((e+1:Nat):Int)=v4 at *
  clear HI hg3 ho3 hput hpre4 hen HW5 HF5 hA hBB hCC hDD hc2 hp0 cva
  go_wp2_with fail
  go_ret
  exact⟨F4,D4,v4,e::g3,bb,rfl,HP,HQ⟩
 ·have hlk:=HL W rfl
  have Hb:Hid (vs[b]? = some ((e+1:Nat):Int)):=hb
  clear HL hb
  go_enter Tryz.func134,Tryz.ntmps134
  go_wp2_with fail
  go_ret
  exact⟨F,D,vs,gk,b,rfl,Hb,Gw.refl _ H.out⟩
theorem wnext_calls {C:List Nat}{p m J:Nat}{P:List Nat}(hB:Base P J)(hJ:J≤4096)(hC:∀ q∈P,∀ j,j≤J→q+j∈C)(hm:m+1+C.length≤2147483648): ∀ e,(∃ q∈P,∃ j,j<J∧e=q+j)→NextC C p m e:=by
 intro e
 induction e using Nat.strongRecOn with
 | _ e ih=>exact fun h=>next_step hB hJ hC hm e h ih
end
end Sr
namespace Sr
open Go Go.Proofs Go.RowKit Go.Maps Go.WideMaps
section
structure Cov (P:List Nat)(C:List Nat)(m:Nat): Prop where
 base:Base P 4096
 cov:∀ q∈P,∀ j,j≤4096→q+j∈C
 room:m+1+C.length≤2147483648
structure Grow (C:List Nat)(W W':World)(p:Nat)(F F':List Nat)(D':WD)(vs vs':List Int)(gk':List Nat)(m:Nat): Prop where
 wo:WO C W' p F' D' vs' gk' m
 fe:FE F W F' W'
 pre:vs <+: vs'
variable {vs:List Int}
theorem Gw.grow {C:List Nat}{W W':World}{p:Nat}{F F':List Nat}{D':WD}{vs':List Int}{gk gk':List Nat}{m N:Nat}(h:Gw C W W' p F F' D' vs vs' gk gk' m N): Grow C W W' p F F' D' vs vs' gk' m:=⟨h.wo,⟨h.fr,h.sub⟩,h.pre⟩
theorem bound_of {vs:List Int}: ∀ {l:List PT},(∀ t∈l,∃ e:Nat,vs[t.2]? = some (e:Int))→∃ N:Nat,∀ t∈l,∀ e:Nat,vs[t.2]? = some (e:Int)→e≤N
 | [],_=>⟨0,fun t ht=>by simp at ht⟩
 | t::l,h=>by
   obtain⟨N,hN⟩:=bound_of (l:=l) fun t ht=>h t (by simp[ht])
   obtain⟨e,he⟩:=h t (by simp)
   refine⟨N+e,fun u hu x hx=>?_⟩
   rcases List.mem_cons.1 hu with rfl | hu
   ·rw[he] at hx; have:=Option.some.inj hx; omega
   ·have:=hN u hu x hx; omega
theorem wsum_calls {P C:List Nat}{m:Nat}(hc:Cov P C m){W:World}{p:Nat}{F:List Nat}{D:WD}{gk:List Nat}(h:WO C W p F D vs gk m){v:Value}{l:List PT}(hl:TRow W v l)(hlen:l.length≤1023) 
 (hok:∀ t∈l,∃ e:Nat,vs[t.2]? = some (e:Int)∧e∈P) :
 Calls Tryz.prog 104 #[.pointer (some ⟨p,0,none⟩),v] W fun x W'=>∃ (F':List Nat) (D':WD) (vs':List Int) (gk':List Nat) (v':Value),x=.returned v'∧Hid (TRow W' v' (pf vs' (ptv vs l)))∧Hid (∀ x∈exps (ptv vs l),(x:Int)∈vs') ∧
  Hid (∀ b,v'.ownBlock=some b→W.heap.size≤b∧b∉F')∧Hid (Grow C W W' p F F' D' vs vs' gk' m):=by
 obtain⟨N,hN⟩:=bound_of (vs:=vs) (l:=l) fun t ht=>by obtain⟨e,he,_⟩:=hok t ht; exact⟨e,he⟩
 have:=sum_calls (P:=P) (N:=N+(ptv vs l).natAbs) (J:=4096) h v l hl (jR _) (by omega)
  (fun t ht=>by obtain⟨e,he,hp⟩:=hok t ht; exact⟨e,he,hp,by have:=hN t ht e he; omega⟩)
  (fun x hx=>by have:=Nat.lt_two_pow_self (n:=x);omega)
  (fun e _ hch=>wnext_calls hc.base (jR _) hc.cov hc.room e hch)
 refine this.mono ?_
 rintro x W' ⟨F',D',vs',gk',v',rfl,k1,k2,k3,k4⟩
 refine⟨F',D',vs',gk',v',rfl,k1,fun y hy=>?_,k3,k4.out.grow⟩
 obtain⟨t,ht,rfl⟩:=List.mem_map.1 hy
 exact k2.out t ht
end
theorem zeros_run (n:Nat)(h0:0<n)(hn:n≤1000000000)(W:World): ∃ (cap:Nat) (cells:Array Value),n≤cap∧cap≤maxLen∧cells.size=cap*2 ∧
 (Builtin.append_ #[111,3] 111 #[.slice none 0 0,.int .i64 (n:Nat)]).run Tryz.prog W=.ok (.slice (some ⟨W.heap.size,0,none⟩) n cap) (W.drew.alloc (.cells cells 154)):=by
 obtain⟨i,hi,hz0,hz1,hz2⟩:=info_parts info154
 refine⟨_,_,grownCap_ge W n 0 154,grownCap_le_maxLen W n 0 154 (by simp only[maxLen];omega),?_,Lib.run_append_nil_zeros W 111 3 111 154 i _ .i64 .i64 un111 Tryz.underlying3 hi hz0 n h0 (by omega) (by omega) (by rw[hz2];omega)⟩
 have:=grownCap_ge W n 0 154
 rw[Array.size_append,size_zeroCells,size_zeroCells]
 show n*2+(grownCap W n 0 154 - n)*2=grownCap W n 0 154*2
 omega
theorem grow_calls (n:Nat)(hn:n≤1000000000)(W:World): Calls Tryz.prog 135 #[.slice none 0 0,.int .i64 (n:Nat)] W fun x W'=>∃ v',x=.returned v'∧Hid (TRow W' v' [])∧Hid (Below W.heap.size W W')∧Hid (∀ b,v'.ownBlock=some b→W.heap.size≤b):=by
 have hw:IntKind.i64.wrap (n:Int)=(n:Int):=IntWalk.i64_in _ (by omega)
 have h0:¬ ((n:Int)<0):=by omega
 by_cases hz:n=0
 ·subst hz
  go_enter Tryz.func135,Tryz.ntmps135
  go_wp2_with fail
  go_ret
  exact⟨_,rfl,⟨rfl,.inl ⟨rfl,rfl⟩⟩,Below.refl _ _,fun b hb=>by cases hb⟩
 ·have hp:(0:Int)<(n:Int):=by omega
  obtain⟨cap,cells,hc1,hc2,hc3,hrz⟩:=zeros_run n (by omega) hn W
  have HC:Hid (n≤cap∧cap≤maxLen∧cells.size=cap*2):=⟨hc1,hc2,hc3⟩
  clear hc1 hc2 hc3
  go_enter Tryz.func135,Tryz.ntmps135
  go_wp2_with (at_builtin; go_loud (refine Lib.wpList_append_run _ rfl _ _ _ _ rfl _ _ rfl rfl _ _ hrz ?_))
  go_ret
  obtain⟨k1,k2,k3⟩:=HC.out
  refine⟨_,rfl,?_,((Below.refl W.heap.size W).alloc (jR _) (.cells cells 154)).drew,fun b hb=>by cases hb; exact jR _⟩
  exact⟨rfl,.inr ⟨W.heap.size,cap,cells,rfl,Nat.zero_le _,jD W _,Nat.zero_le _,k2,k3,by simp; rfl⟩⟩
theorem app_none_run {W:World}{v:Value}{l:List PT}(h:TRow W v l): (Builtin.append_ #[111,111] 111 #[v,.slice none 0 0]).run Tryz.prog W=.ok v W:=by
 obtain⟨i,hi,hz0,hz1,hz2⟩:=info_parts info154
 obtain⟨_,⟨rfl,h2⟩ | ⟨g,cap,cur,rfl,_,_,h5,_⟩⟩:=h
 ·exact run_append_nothing W 111 111 111 154 i un111 hi none 0 0 (jR _) _ (Src.ofNil W un111 0)
 ·exact run_append_nothing W 111 111 111 154 i un111 hi _ _ _ h5 _ (Src.ofNil W un111 0)
def lens (ls:List (Value×List PT)): Nat:=(ls.flatMap (·.2)).length
theorem lens_snoc (ls:List (Value×List PT))(x:Value×List PT): lens (ls++[x])=lens ls+x.2.length:=by simp[lens]
theorem lens_take (ls:List (Value×List PT))(k:Nat): lens (ls.take k)≤lens ls:=by
 unfold lens
 have:ls.flatMap (·.2)=(ls.take k).flatMap (·.2)++(ls.drop k).flatMap (·.2):=by rw[← List.flatMap_append,List.take_append_drop]
 rw[this,List.length_append];omega
theorem concat_calls {W:World}{v:Value}{ls:List (Value×List PT)}(hv:W.ownsRow 0 111 1 v ls.length (ls.map Prod.fst))(hr:∀ x∈ls,TRow W x.1 x.2)(hn:lens ls≤1000000)(hk:ls.length≤1000):
 Calls Tryz.prog 105 #[v] W fun x W'=>∃ v',x=.returned v'∧Hid (TRow W' v' (ls.flatMap (·.2)))∧Hid (Below W.heap.size W W')∧Hid (∀ b,v'.ownBlock=some b→W.heap.size≤b):=by
 have HV:Hid _:=hv
 have HR:Hid (∀ x∈ls,TRow W x.1 x.2):=hr
 obtain⟨vb,vc,rfl⟩:∃ vb vc,v=.slice vb ls.length vc:=by
  obtain⟨_,⟨rfl,h2⟩ | ⟨g,cap,cur,rfl,_⟩⟩:=hv
  ·exact⟨none,0,by rw[h2]⟩
  ·exact⟨_,cap,rfl⟩
 clear hv hr
 go_enter Tryz.func105,Tryz.ntmps105
 go_wp2_with fail
 go_loopg [3,11] ls.length (fun g1 vs vi wr=>∃ (k:Nat),vs=.int .i64 (lens (ls.take k):Nat)∧vi=.int .i64 k∧k≤ls.length∧ls.length - k≤g1∧W=wr)
 case atStart=>exact⟨0,rfl,rfl,by omega,by omega,rfl⟩
 case round =>
  obtain⟨k,rfl,rfl,hkl,hg,rfl⟩:=hrel
  by_cases hkk:k<ls.length
  ·have hkz:(k:Int)<(ls.length:Int):=by omega
   have hk0:(0:Int)≤(k:Int):=Int.natCast_nonneg k
   have hkw:IntKind.i64.wrap ((k:Int)+1)=(k:Int)+1:=IntWalk.i64_in _ (by omega)
   obtain⟨⟨u,l⟩,hx⟩:∃ x,ls[k]? = some x:=⟨_,jG hkk⟩
   obtain⟨g,cap,e1,hc⟩:=qS HV.out (k:=k) (x:=u) (by rw[List.getElem?_map,hx];rfl)
   cases e1
   obtain⟨ua,uc,e2,_,_⟩:=(HR.out _ (jM hx)).shape
   dsimp only at e2
   subst e2
   have hl2:=lens_take ls (k+1)
   have hls:lens (ls.take (k+1))=lens (ls.take k)+l.length:=by rw[j8 hx,lens_snoc]
   obtain⟨s,hs⟩:∃ s,s=lens (ls.take k):=⟨_,rfl⟩
   rw[← hs] at hls
   simp only[← hs]
   have hsw:IntKind.i64.wrap ((s:Int)+(l.length:Int))=(s:Int)+(l.length:Int):=IntWalk.i64_in _ (by omega)
   have hs0:¬ ((s:Int)+(l.length:Int)<0):=by omega
   have HL:Hid (lens (ls.take (k+1))=s+l.length):=hls
   clear hs hls hl2 hx
   go_wp2_with fail
   go_roundg (ls.length - (k+1))
   case measure=>omega
   case rel=>exact⟨k+1,by rw[HL.out];push_cast; rfl,by go_num,by omega,by omega,rfl⟩
  ·have hkz:¬ ((k:Int)<(ls.length:Int)):=by omega
   have hkl2:lens (ls.take k)=lens ls:=by rw[List.take_of_length_le (by omega)]
   rw[hkl2]
   have HG:=grow_calls (lens ls) (by omega) W
   go_wp2_with fail
   refine HG.mono ?_
   rintro x w1 ⟨v1,rfl,hr1,hb1,ho1⟩
   have hb0:Hid (∀ b,v1.ownBlock=some b→W.heap.size≤b):=ho1
   go_wp2_with fail
   go_loopg [6,27] ls.length (fun g1 vx vi w2=>∃ (k:Nat) (ux:Value),vx=ux∧vi=.int .i64 k∧k≤ls.length∧ls.length - k≤g1∧Hid (TRow w2 ux ((ls.take k).flatMap (·.2)))∧Hid (Below W.heap.size W w2)∧Hid (∀ b,ux.ownBlock=some b→W.heap.size≤b))
   case atStart=>exact⟨0,_,rfl,rfl,by omega,by omega,hr1,hb1,hb0⟩
   case round =>
    clear hr1 hb1 hb0 ho1
    obtain⟨k,ux,rfl,rfl,hkl,hg,HT,HB,HO⟩:=hrel
    by_cases hkk:k<ls.length
    ·have hkz:(k:Int)<(ls.length:Int):=by omega
     have hk0:(0:Int)≤(k:Int):=Int.natCast_nonneg k
     have hkw:IntKind.i64.wrap ((k:Int)+1)=(k:Int)+1:=IntWalk.i64_in _ (by omega)
     obtain⟨⟨u,l⟩,hx⟩:∃ x,ls[k]? = some x:=⟨_,jG hkk⟩
     obtain⟨g,cap,e1,hc⟩:=qS (jK HV.out HB.out) (k:=k) (x:=u) (by rw[List.getElem?_map,hx];rfl)
     cases e1
     have hu:=HR.out _ (jM hx)
     dsimp only at hu
     have hfm:Hid ((ls.take (k+1)).flatMap (·.2)=(ls.take k).flatMap (·.2)++l):=by
      show _=_
      rw[j8 hx,List.flatMap_append];simp
     have hll:((ls.take k).flatMap (·.2)).length+l.length≤1099511627776:=by
      have h1:=lens_take ls (k+1)
      unfold lens at h1
      rw[hfm.out,List.length_append] at h1
      have h2:=hn
      unfold lens at h2
      omega
     clear hx
     obtain⟨h1,⟨rfl,h2⟩ | ⟨g2,cap2,cur,rfl,h3,h4,h5,h6,h7,h8⟩⟩:=hu
     ·have hl0:l=[]:=List.length_eq_zero_iff.1 h2
      have hrun:=app_none_run HT.out
      have HT2:Hid (TRow wr u6 ((ls.take (k+1)).flatMap (·.2))):=by
       show TRow _ _ _
       rw[hfm.out,hl0,List.append_nil];exact HT.out
      clear h1 h2 hl0 hll
      go_wp2_with (at_builtin; go_loud (refine Lib.wpList_append_run _ rfl _ _ _ _ rfl _ _ rfl rfl _ _ hrun ?_))
      go_roundg (ls.length - (k+1))
      case measure=>omega
      case rel=>exact⟨k+1,u6,rfl,by go_num,by omega,by omega,HT2,HB,HO⟩
     ·have HU:Hid (TRow W (.slice (some ⟨g2,0,none⟩) l.length cap2) l):=⟨h1,.inr ⟨g2,cap2,cur,rfl,h3,h4,h5,h6,h7,h8⟩⟩
      have HN:Hid (∀ j x,(tcells l)[j]? = some x→wr.cell? ((⟨g2,0,none⟩:Addr).add j)=some x):=fun j x hx=>(jK HU.out HB.out).cells (g:=g2) rfl j x hx
      clear h1 h3 h4 h5 h6 h7 h8
      go_wp2_with (at_builtin; go_loud (refine app_T rfl _ _ rfl u6 ((ls.take k).flatMap (·.2)) rfl HT.out ⟨g2,0,none⟩ cap2 l.length l rfl rfl HN.out hll ?_);intro v' w3 K3 G3 N3 A3)
      go_roundg (ls.length - (k+1))
      case measure=>omega
      case rel =>
       refine⟨k+1,v',rfl,by go_num,by omega,by omega,?_,HB.out.grown G3 HB.out.size (fun b hb=>HO.out b hb),?_⟩
       ·show TRow _ _ _
        rw[hfm.out];exact K3
       ·intro b hb
        rcases A3 with A3 | A3
        ·exact HO.out b (A3▸hb)
        ·rw[A3] at hb; cases hb; exact HB.out.size
    ·have hkz:¬ ((k:Int)<(ls.length:Int)):=by omega
     have HT2:Hid (TRow wr u6 (ls.flatMap (·.2))):=by
      have:=HT.out
      rw[List.take_of_length_le (by omega)] at this
      exact this
     go_wp2_with fail
     go_ret
     exact⟨_,rfl,HT2,HB,HO⟩
def signT:List PT→Int
 | []=>0
 | t::_=>sg t.1
theorem sign_calls {W:World}{v:Value}{l:List PT}(hl:TRow W v l): Calls Tryz.prog 62 #[v] W fun e W'=>e=.returned (.int .i64 (signT l))∧W'=W:=by
 obtain⟨a,c,rfl,_,hs⟩:=hl.shape
 cases l with
 | nil =>
   clear hl hs
   go_enter Tryz.func62,Tryz.ntmps62
   go_wp2_with fail
   go_ret
   exact⟨rfl,rfl⟩
 | cons t l =>
   obtain⟨g,rfl,c0,c1⟩:=hs 0 t rfl
   rw[Nat.zero_mul] at c0
   obtain⟨n,hn⟩:∃ n,n=(t::l).length:=⟨_,rfl⟩
   have hn2:¬ ((n:Int)=0):=by rw[hn,List.length_cons];omega
   have hn3:((n:Int)==0)=false:=by simpa using hn2
   have hn4:(0:Int)<(n:Int):=by rw[hn,List.length_cons];omega
   rw[← hn]
   clear hl hs c1 hn
   obtain⟨s,k⟩:=t
   cases s
   all_goals
    go_enter Tryz.func62,Tryz.ntmps62
    go_wp2_with fail
    go_ret
    exact⟨rfl,rfl⟩
theorem signT_pf (vs:List Int)(x:Int): signT (pf vs x)=isg x:=by
 have hv:=jc x
 have hn:=jb x
 unfold pf
 cases hf:form x with
 | nil=>rw[hf] at hv; simp only[lv] at hv; rw[← hv];rfl
 | cons t l =>
   rw[hf] at hv hn
   obtain⟨s,e⟩:=t
   have hp:=jk e
   cases s
   ·have:=zs hn
    rw[hv] at this
    rw[zu (by omega)];rfl
   ·have:=zt hn
    rw[hv] at this
    rw[za (by omega)];rfl
section
theorem yM (s:Bool)(w:World): Calls Tryz.prog 116 #[.bool s] w fun e w'=>e=.returned (.int .i64 (sg s))∧w'=w:=by
 cases s
 all_goals
  go_enter Tryz.func116,Tryz.ntmps116
  go_wp2_with fail
  go_ret
  exact⟨rfl,rfl⟩
variable {W:World} {p n a b:Nat}
theorem rSign_calls {C:List Int}{fv:Value}{fl:List Value}{vs:List Int}(H:RW C W p fv fl vs){i:Nat}{x:Int}(hi:vs[i]? = some x):
 Calls Tryz.prog 73 #[.pointer (some ⟨p,0,none⟩),.int .i64 (i:Nat)] W fun e W'=>e=.returned (.int .i64 (isg x))∧W'=W:=by
 have hsg:=yM
 have c0:=H.c0
 obtain⟨g,cap,rfl,hrow⟩:=H.formAt
 obtain⟨v,_,cv,hr⟩:=hrow i x hi
 have hlt:i<vs.length:=(jL hi).1
 have i0:(0:Int)≤(i:Int):=by omega
 have iz:(i:Int)<(vs.length:Int):=by omega
 obtain⟨a,c,rfl,hs⟩:=hr.get
 have e:isg x=signT (pf vs x):=(signT_pf vs x).symm
 rw[e]
 clear H hrow hr e hi hlt
 generalize pf vs x=l at *
 cases l with
 | nil =>
   clear hs hsg
   go_enter Tryz.func73,Tryz.ntmps73
   go_wp2_with fail
   go_ret
   exact⟨rfl,rfl⟩
 | cons t l =>
   obtain⟨g2,rfl,d0,d1⟩:=hs 0 t rfl
   rw[Nat.zero_mul] at d0
   obtain⟨n,hn⟩:∃ n,n=(t::l).length:=⟨_,rfl⟩
   have hn2:¬ ((n:Int)=0):=by rw[hn,List.length_cons];omega
   have hn3:((n:Int)==0)=false:=by simpa using hn2
   have hn4:(0:Int)<(n:Int):=by rw[hn,List.length_cons];omega
   rw[← hn] at cv
   have hsg1:=hsg t.1
   clear hs d1 hn hsg
   show Calls _ _ _ _ fun e W'=>e=.returned (.int .i64 (sg t.1))∧W'=W
   go_enter Tryz.func73,Tryz.ntmps73
   go_wp2_with fail
   refine (hsg1 _).mono ?_
   rintro e w' ⟨rfl,rfl⟩
   go_wp2_with fail
   go_ret
   exact⟨rfl,rfl⟩
theorem yN {P:Program}{f:FuncId}{args:Array Value}{N:Nat}{v:Value}(h:Calls P f args (W.drewN (N+n)) fun e w'=>e=.returned v∧∃ m,w'=(W.drewN (N+n)).drewN m):
 Calls P f args (W.drewN (N+n)) fun e w''=>e=.returned v∧∃ m,w''=W.drewN (N+m):=h.mono fun _ _ ⟨he,m,hm⟩=>⟨he,n+m,by rw[hm,World.drewN_drewN,Nat.add_assoc]⟩
theorem quiet_same {P:Program}{f:FuncId}{args:Array Value}{N:Nat}{v:Value}(h:Calls P f args (W.drewN (N+n)) fun e w'=>e=.returned v∧w'=W.drewN (N+n)):
 Calls P f args (W.drewN (N+n)) fun e w''=>e=.returned v∧∃ m,w''=W.drewN (N+m):=h.mono fun _ _ ⟨he,hm⟩=>⟨he,n,hm⟩
def RCmpC (p:Nat)(a b:Nat)(c:Int)(W:World): Prop :=
 Calls Tryz.prog 84 #[.pointer (some ⟨p,0,none⟩),.int .i64 (a:Nat),.int .i64 (b:Nat)] W fun e W'=>e=.returned (.int .i64 c)∧∃ m,W'=W.drewN m
theorem rCmp_walk {g cap:Nat}{va vb:Value}{la lb:List PT}(cf:Nat→Nat→Int)(c0:W.cell? ⟨p,0,none⟩=some (.slice (some ⟨g,0,none⟩) n cap))(ha:a<n)(hb:b<n) 
 (cva:W.cell? ⟨g,a,none⟩=some va) (cvb:W.cell? ⟨g,b,none⟩=some vb) (ra:RRow W va la) (rb:RRow W vb lb) (hna:la.length≤5000000004097) (hcf:∀ i j,-1≤cf i j∧cf i j≤1)
 (hi:Hid (∀ (k:Nat) (s t:PT) (m:Nat),la[k]? = some s→lb[k]? = some t→RCmpC p s.2 t.2 (cf s.2 t.2) (W.drewN m))):RCmpC p a b (cmpT cf la lb) W:=by
 have a0:(0:Int)≤(a:Int):=by omega
 have b0:(0:Int)≤(b:Int):=by omega
 have az:(a:Int)<(n:Int):=by omega
 have bz:(b:Int)<(n:Int):=by omega
 obtain⟨va1,va2,rfl,sa⟩:=ra.get
 obtain⟨vb1,vb2,rfl,sb⟩:=rb.get
 have Sa:=jH sa
 have Sb:=jH sb
 have HI:=hi
 clear ra rb sa sb hi ha hb
 unfold RCmpC
 go_enter Tryz.func84,Tryz.ntmps84
 go_wp2_with fail
 go_quiet (fail)
 go_wp2_with fail
 go_loopg [9] la.length (fun g1 vi wr=>∃ (k m:Nat),vi=.int .i64 k∧k≤la.length∧k≤lb.length∧la.length - k≤g1∧wr=W.drewN m∧Hid (∀ i<k,∃ t,la[i]? = some t∧lb[i]? = some t))
 case atStart=>exact⟨0,nq,rfl,by omega,by omega,by omega,rfl,fun i hi=>by omega⟩
 case round =>
  obtain⟨k,m,rfl,hka,hkb,hg,rfl,HE⟩:=hrel
  have hk0:(0:Int)≤(k:Int):=Int.natCast_nonneg k
  have hkw:IntKind.i64.wrap ((k:Int)+1)=(k:Int)+1:=IntWalk.i64_in _ (by omega)
  by_cases h1:k<la.length
  ·have h1z:(k:Int)<(la.length:Int):=by omega
   obtain⟨⟨sx,ax⟩,hx⟩:∃ x,la[k]? = some x:=⟨_,jG h1⟩
   obtain⟨ga,rfl,cx0,cx1⟩:=Sa.out k _ hx
   have Hx:=jH hx
   dsimp only at cx0 cx1
   clear hx
   by_cases h2:k<lb.length
   ·have h2z:(k:Int)<(lb.length:Int):=by omega
    obtain⟨⟨sy,ay⟩,hy⟩:∃ x,lb[k]? = some x:=⟨_,jG h2⟩
    obtain⟨gb,rfl,cy0,cy1⟩:=Sb.out k _ hy
    have Hy:=jH hy
    dsimp only at cy0 cy1
    clear hy
    by_cases he:sx=sy∧ax=ay
    ·obtain⟨rfl,rfl⟩:=he
     have HE2:Hid (∀ i<k+1,∃ t,la[i]? = some t∧lb[i]? = some t):=fun i hi=>if h:i=k then ⟨(sx,ax),h▸Hx.out,h▸Hy.out⟩ else HE.out i (by omega)
     clear HE
     go_wp2_with fail
     go_quiet (fail)
     go_wp2_with fail
     go_roundg (la.length - (k+1))
     case measure=>omega
     case rel=>exact⟨k+1,m+nq,by go_num,by omega,by omega,by omega,rfl,HE2⟩
    ·have HR:=jH (cmpT_both (c:=cf) HE.out Hx.out Hy.out (fun e1=>he ⟨congrArg Prod.fst e1,congrArg Prod.snd e1⟩))
     have hz:sx=sy→¬ ((ax:Int)=(ay:Int)):=fun e1 e2=>he ⟨e1,by omega⟩
     have hek:¬ ((k:Int)=(la.length:Int)):=by omega
     have hel:¬ ((k:Int)=(lb.length:Int)):=by omega
     have hek1:decide ((k:Int)=(la.length:Int))=false:=by simpa using hek
     have hel1:decide ((k:Int)=(lb.length:Int))=false:=by simpa using hel
     have hek2:((k:Int)==(la.length:Int))=false:=by simpa using hek
     have hel2:((k:Int)==(lb.length:Int))=false:=by simpa using hel
     clear HE he
     by_cases hs:sx=sy
     ·subst hs
      have hz2:=hz rfl
      have HIk:∀ n,Calls Tryz.prog 84 #[.pointer (some ⟨p,0,none⟩),.int .i64 (ax:Nat),.int .i64 (ay:Nat)] (W.drewN n) fun e W'=>e=.returned (.int .i64 (cf ax ay))∧∃ m,W'=(W.drewN n).drewN m:=fun n=>HI.out k _ _ n Hx.out Hy.out
      have hw:IntKind.i64.wrap (sg sx*cf ax ay)=sg sx*cf ax ay:=wrapc _ (by have:=hcf ax ay; cases sx <;>simp only[sg_true,sg_false] <;>omega)
      clear hz
      go_wp2_with fail
      go_quiet (fail)
      go_wp2_with fail
      go_quiet (fail)
      go_wp2_with fail
      go_quiet (first | (go_at_call 116; exact quiet_same (yM _ _)) | (go_at_call 84; exact yN (HIk _)))
      go_wp2_with fail
      go_ret
      exact⟨by rw[HR.out];simp[dif],_,by rw[World.drewN_drewN,World.drewN_drewN]⟩
     ·clear hz
      have hsr:=yM sx
      have hw:IntKind.i64.wrap (-(sg sy)) = -(sg sy):=wrapc _ (by cases sy <;>simp[sg_true,sg_false])
      revert hsr HR
      cases sx <;>cases sy <;>first | exact absurd rfl hs | skip
      all_goals
       intro HR hsr
       go_wp2_with fail
       go_quiet (fail)
       go_wp2_with fail
       go_quiet (fail)
       go_wp2_with fail
       refine (hsr _).mono ?_
       rintro e w' ⟨rfl,rfl⟩
       go_wp2_with fail
       go_ret
       exact⟨by rw[HR.out];rfl,_,rfl⟩
   ·obtain rfl:k=lb.length:=by omega
    have hek:¬ ((lb.length:Int)=(la.length:Int)):=by omega
    have hek1:decide ((lb.length:Int)=(la.length:Int))=false:=by simpa using hek
    have hek2:((lb.length:Int)==(la.length:Int))=false:=by simpa using hek
    have hsr:=yM sx
    have HR:=jH (cmpT_left (c:=cf) HE.out Hx.out (jR _))
    clear HE
    go_wp2_with fail
    go_quiet (fail)
    go_wp2_with fail
    go_quiet (fail)
    go_wp2_with fail
    refine (hsr _).mono ?_
    rintro e w' ⟨rfl,rfl⟩
    go_wp2_with fail
    go_ret
    exact⟨by rw[HR.out];rfl,_,rfl⟩
  ·obtain rfl:k=la.length:=by omega
   by_cases h2:la.length<lb.length
   ·have h2z:(la.length:Int)<(lb.length:Int):=by omega
    obtain⟨⟨sy,ay⟩,hy⟩:∃ x,lb[la.length]? = some x:=⟨_,jG h2⟩
    obtain⟨gb,rfl,cy0,cy1⟩:=Sb.out la.length _ hy
    have Hy:=jH hy
    dsimp only at cy0 cy1
    clear hy
    have hek:¬ ((la.length:Int)=(lb.length:Int)):=by omega
    have hek1:decide ((la.length:Int)=(lb.length:Int))=false:=by simpa using hek
    have hek2:((la.length:Int)==(lb.length:Int))=false:=by simpa using hek
    have hsr:=yM sy
    have hw:IntKind.i64.wrap (-(sg sy)) = -(sg sy):=wrapc _ (by cases sy <;>simp[sg_true,sg_false])
    have HR:=jH (cmpT_right (c:=cf) HE.out Hy.out (jR _))
    clear HE
    go_wp2_with fail
    go_quiet (fail)
    go_wp2_with fail
    refine (hsr _).mono ?_
    rintro e w' ⟨rfl,rfl⟩
    go_wp2_with fail
    go_ret
    exact⟨by rw[HR.out];rfl,_,rfl⟩
   ·have hel:lb.length=la.length:=by omega
    have HR:=jH (cmpT_end (c:=cf) HE.out (jR _) (Nat.le_of_eq hel))
    rw[hel] at *
    clear HE
    go_wp2_with fail
    go_quiet (fail)
    go_wp2_with fail
    go_ret
    exact⟨by rw[HR.out];rfl,_,rfl⟩
theorem cmpC_kept {c:Int}: ∀ (C:List Int) (fv:Value) (fl:List Value) (vs:List Int) (x y:Int),RW C W p fv fl vs→vs[a]? = some x→vs[b]? = some y→c=isg (x - y)→RCmpC p a b c W:=by
 intro C fv fl vs x y H ha hb hc
 subst hc
 have key:∀ (N a b:Nat) (x y:Int) (W:World),a≤N→RW C W p fv fl vs→vs[a]? = some x→vs[b]? = some y→RCmpC p a b (isg (x - y)) W:=by
  intro N
  induction N using Nat.strongRecOn with
  | ind N ih =>
    intro a b x y W hN H ha hb
    have hwv:=H.wv
    obtain⟨g,cap,hfv,hrow⟩:=H.formAt
    obtain⟨va,_,cva,ra⟩:=hrow a x ha
    obtain⟨vb,_,cvb,rb⟩:=hrow b y hb
    have c0:=H.c0
    rw[hfv] at c0
    have hNa:(pf vs x).length≤vs.length:=by
     have h1:(pf vs x).length=(exps x).length:=by simp[pf,exps]
     rw[h1]
     have:=jT (exps x) (vs.map Int.toNat) (exps_nodup x) (fun e he=>List.mem_map.2 ⟨(e:Int),hwv.mem_exps (jM ha) he,by simp⟩)
     rwa [List.length_map] at this
    rw[← cmpT_pf hwv (jM ha) (jM hb)]
    refine rCmp_walk _ c0 (jL ha).1 (jL hb).1 cva cvb ra rb (Nat.le_trans hNa H.vlen) (fun i j=>isg_bd _) ?_
    intro k s t m hs ht
    obtain⟨s0,hs0,rfl⟩:∃ s0,(form x)[k]? = some s0∧s=(s0.1,vs.idxOf (s0.2:Int)):=by
     unfold pf at hs; rw[List.getElem?_map] at hs; obtain⟨s0,h1,h2⟩:=Option.map_eq_some_iff.1 hs; exact⟨s0,h1,h2.symm⟩
    obtain⟨t0,ht0,rfl⟩:∃ t0,(form y)[k]? = some t0∧t=(t0.1,vs.idxOf (t0.2:Int)):=by
     unfold pf at ht; rw[List.getElem?_map] at ht; obtain⟨s0,h1,h2⟩:=Option.map_eq_some_iff.1 ht; exact⟨s0,h1,h2.symm⟩
    obtain⟨i,hi,e1⟩:=hwv.closed a x ha s0.2 (List.mem_map.2 ⟨s0,jM hs0,rfl⟩)
    obtain⟨j,hj,e2⟩:=hwv.closed b y hb t0.2 (List.mem_map.2 ⟨t0,jM ht0,rfl⟩)
    dsimp only
    rw[hwv.idx_get e1,hwv.idx_get e2,zE e1,zE e2]
    exact ih i (by omega) i j _ _ _ (jR _) (H.drewN m) e1 e2
 exact key a a b x y W (jR _) H ha hb
theorem yO {C:List Int}{fv:Value}{fl:List Value}{vs:List Int}(H:RW C W p fv fl vs){x y:Int}(ha:vs[a]? = some x)(hb:vs[b]? = some y):
 Calls Tryz.prog 84 #[.pointer (some ⟨p,0,none⟩),.int .i64 (a:Nat),.int .i64 (b:Nat)] W fun e W'=>e=.returned (.int .i64 (isg (x - y)))∧∃ m,W'=W.drewN m:=cmpC_kept C fv fl vs x y H ha hb rfl
end
section
def RPlusQ (C:List Int)(W:World)(p:Nat)(fv:Value)(fl:List Value)(vs:List Int)(z:Int)(e:Ending)(W':World): Prop :=
 ∃ v' fv' fl' vs',e=.returned v'∧Hid (RPut C W W' p fv fv' fl fl' vs vs')∧Hid (∀ j∈exps z,(j:Int)∈vs')∧Hid (RRow W' v' (pf vs' z))
def RPlus (C:List Int)(x:Int)(s:Bool)(e:Nat): Prop:=∀ (W:World) (p:Nat) (fv:Value) (fl:List Value) (vs:List Int) (v:Value) (i:Nat),RW C W p fv fl vs→(∀ j∈exps x,(j:Int)∈vs)→RRow W v (pf vs x)→vs[i]? = some (e:Int) →
 Calls Tryz.prog 113 #[.pointer (some ⟨p,0,none⟩),v,.agg #[.bool s,.int .i64 (i:Nat)]] W (RPlusQ C W p fv fl vs (x+tv (s,e)))
def RNextQ (C:List Int)(W:World)(p:Nat)(fv:Value)(fl:List Value)(vs:List Int)(j:Nat)(e:Ending)(W':World): Prop :=
 ∃ (i:Nat) (fv':Value) (fl':List Value) (vs':List Int),e=.returned (.int .i64 (i:Nat))∧Hid (RPut C W W' p fv fv' fl fl' vs vs')∧Hid (vs'[i]? = some ((j+1:Nat):Int))
def RNext (C:List Int)(j:Nat): Prop:=∀ (W:World) (p:Nat) (fv:Value) (fl:List Value) (vs:List Int) (i:Nat),RW C W p fv fl vs→vs[i]? = some (j:Int) →
 Calls Tryz.prog 114 #[.pointer (some ⟨p,0,none⟩),.int .i64 (i:Nat)] W (RNextQ C W p fv fl vs j)
structure PSt (C:List Int)(w:World)(p:Nat)(fv:Value)(fl:List Value)(vs:List Int)(x:Int)(v:Value)(bt:Nat)(s:Bool)(i e:Nat): Prop where
 rw:RW C w p fv fl vs
 exs:∀ j∈exps x,(j:Int)∈vs
 row:RRow w v (pf vs x)
 box:w.heap[bt]? = some (.cells #[.bool s,.int .i64 (i:Nat)] 139 (0,0))
 plc:vs[i]? = some (e:Int)
variable {z:Int} {k:Nat}
section
variable {C:List Int} {w w':World} {p:Nat} {fv fv':Value} {fl fl':List Value} {vs vs':List Int} {x:Int} {v:Value} {bt:Nat} {s:Bool} {i e:Nat}
theorem PSt.below (h:PSt C w p fv fl vs x v bt s i e)(hb:Below w.heap.size w w'): PSt C w' p fv fl vs x v bt s i e :=
 ⟨h.rw.below hb,h.exs,jK h.row hb,(hb.block bt (jA h.box).1).trans h.box,h.plc⟩
theorem PSt.drewN (h:PSt C w p fv fl vs x v bt s i e)(n:Nat): PSt C (w.drewN n) p fv fl vs x v bt s i e:=h.below (jN _ _)
theorem pf_put (h:RPut C w w' p fv fv' fl fl' vs vs')(hw:WV vs)(hz:∀ j∈exps z,(j:Int)∈vs): pf vs' z=pf vs z:=pf_ext h.ext hw hz
theorem PSt.put (h:PSt C w p fv fl vs x v bt s i e)(k:RPut C w w' p fv fv' fl fl' vs vs'): PSt C w' p fv' fl' vs' x v bt s i e :=
 ⟨k.rw,fun j hj=>qN k.ext (h.exs j hj),by rw[pf_put k h.rw.wv h.exs];exact h.row.fr h.rw k.fr,fr_type h.rw k.fr h.box (by decide) (by decide),jW k.ext h.plc⟩
theorem PSt.b0 (h:PSt C w p fv fl vs x v bt s i e): w.cell? ⟨bt,0,none⟩=some (.bool s):=by rw[jB h.box];rfl
theorem PSt.b1 (h:PSt C w p fv fl vs x v bt s i e): w.cell? ⟨bt,1,none⟩=some (.int .i64 (i:Nat)):=by rw[jB h.box];rfl
theorem PSt.term (h:PSt C w p fv fl vs x v bt s i e){u:Tm}(hu:(form x)[k]? = some u): ∃ g c d,v=.slice (some ⟨g,0,none⟩) (form x).length c∧w.cell? ⟨g,k*2,none⟩=some (.bool u.1)∧w.cell? ⟨g,k*2+1,none⟩=some (.int .i64 (d:Nat))∧vs[d]? = some (u.2:Int):=by
 obtain⟨a,c,rfl,hs⟩:=h.row.get
 have e1:(pf vs x)[k]? = some (u.1,vs.idxOf (u.2:Int)):=by unfold pf; rw[List.getElem?_map,hu];rfl
 obtain⟨g,rfl,k1,k2⟩:=hs k _ e1
 exact⟨g,c,_,by simp[pf],k1,k2,jU (h.exs _ (Sr.mem_exps (jM hu)))⟩
theorem PSt.shape (h:PSt C w p fv fl vs x v bt s i e): ∃ a c,v=.slice a (form x).length c:=by
 obtain⟨a,c,rfl,_⟩:=h.row.get
 exact⟨a,c,by simp[pf]⟩
theorem PSt.len (h:PSt C w p fv fl vs x v bt s i e): (form x).length≤5000000004097:=by
 have h1:=yz h.exs
 have h2:(pf vs x).length=(form x).length:=by simp[pf]
 have:=h.rw.vlen; omega
theorem WV.same (h:WV vs){a b:Nat}{y:Int}(ha:vs[a]? = some y)(hb:vs[b]? = some z): a=b↔y=z:=by
 constructor
 ·rintro rfl; rw[ha] at hb; exact Option.some.inj hb
 ·rintro rfl; rw[← h.idx_get ha,h.idx_get hb]
theorem RPlusQ.pre {W0:World}{z:Int}{y:Ending}(h0:Below W0.heap.size W0 w)(h:RPlusQ C w p fv fl vs z y w'): RPlusQ C W0 p fv fl vs z y w':=by
 obtain⟨v',fv',fl',vs',h1,h2,h3,h4⟩:=h
 exact⟨v',fv',fl',vs',h1,h2.out.pre h0,h3,h4⟩
theorem RPlusQ.put {y:Ending}{w2:World}(h0:RPut C w w' p fv fv' fl fl' vs vs')(h:RPlusQ C w' p fv' fl' vs' z y w2): RPlusQ C w p fv fl vs z y w2:=by
 obtain⟨v2,fv2,fl2,vs2,h1,h2,h3,h4⟩:=h
 exact⟨v2,fv2,fl2,vs2,h1,h0.trans h2.out,h3,h4⟩
theorem PSt.ends (h:RW C w p fv fl vs)(hb:Below w.heap.size w w'){v':Value}(hz:∀ j∈exps z,(j:Int)∈vs)(hr:RRow w' v' (pf vs z)): RPlusQ C w p fv fl vs z (.returned v') w' :=
 ⟨v',fv,fl,vs,rfl,(RPut.refl h).post hb,hz,hr⟩
end
theorem cut_at {x:Int}{e:Nat}(h1:∀ i<k,∀ u,(form x)[i]? = some u→e<u.2)(h2:∀ u,(form x)[k]? = some u→u.2≤e): (∀ u∈(form x).take k,e<u.2)∧∀ u∈(form x).drop k,u.2≤e:=by
 refine⟨fun u hu=>?_,fun u hu=>?_⟩
 ·obtain⟨i,hi⟩:=List.getElem?_of_mem hu
  rw[List.getElem?_take] at hi
  split at hi
  ·exact h1 i (by assumption) u hi
  ·cases hi
 ·cases hd:(form x)[k]? with
  | none=>rw[List.drop_eq_nil_of_le (List.getElem?_eq_none_iff.1 hd)] at hu; simp at hu
  | some t =>
    have ht:=h2 t hd
    have hn:=jb x
    have e1:form x=(form x).take k++t::(form x).drop (k+1):=by
     obtain⟨h3,h4⟩:=jL hd
     rw[← h4,← List.drop_eq_getElem_cons h3,List.take_append_drop]
    have e2:(form x).drop k=t::(form x).drop (k+1):=by
     obtain⟨h3,h4⟩:=jL hd
     rw[← h4,← List.drop_eq_getElem_cons h3]
    rw[e2] at hu
    rw[e1] at hn
    rcases List.mem_cons.1 hu with rfl | hu
    ·exact ht
    ·have:=(List.pairwise_cons.1 (List.pairwise_append.1 hn).2.1).1 u hu; omega
theorem split_at {x:Int}{u:Tm}(h:(form x)[k]? = some u): form x=(form x).take k++u::(form x).drop (k+1):=by
 obtain⟨h3,h4⟩:=jL h
 rw[← h4,← List.drop_eq_getElem_cons h3,List.take_append_drop]
theorem pf_del {vs:List Int}{x:Int}{u:Tm}(h:(form x)[k]? = some u): (pf vs x).take k++(pf vs x).drop (k+1)=pf vs (x - tv u):=by
 unfold pf
 rw[form_del (split_at h),List.map_append,List.map_take,List.map_drop]
theorem exs_del {vs:List Int}{x:Int}{u:Tm}(h:(form x)[k]? = some u)(hx:∀ j∈exps x,(j:Int)∈vs): ∀ j∈exps (x - tv u),(j:Int)∈vs:=fun j hj =>
 hx j ((qK (s:=u.1) (e:=u.2) (jM h) j).1 hj).1
theorem isg_one {a b:Nat}(h:b<a): isg ((a:Int) - b)=1:=zu (by omega)
theorem isg_no {a b:Nat}(h:¬ b<a): decide (0<isg ((a:Int) - b))=false:=by
 unfold isg; split
 ·rfl
 ·split
  ·rfl
  ·omega
theorem pst_start {C:List Int}{W:World}{p:Nat}{fv:Value}{fl:List Value}{vs:List Int}{x:Int}{v:Value}{s:Bool}{i e:Nat}(H:RW C W p fv fl vs)(hx:∀ j∈exps x,(j:Int)∈vs)(hr:RRow W v (pf vs x))(hi:vs[i]? = some (e:Int)):
 ∃ W0 bt,W.alloc (.cells #[.bool s,.int .i64 (i:Nat)] 139)=W0∧W.heap.size=bt∧Hid (PSt C W0 p fv fl vs x v bt s i e)∧Hid (Below W.heap.size W W0):=by
 refine⟨_,_,rfl,rfl,?_,(Below.refl _ _).alloc (jR _) _⟩
 exact⟨H.alloc _,hx,jK hr ((Below.refl _ _).alloc (jR _) _),jD _ _,hi⟩
theorem bool_ne {a b:Bool}(h:¬ a=b): b=!a:=by cases a <;>cases b <;>simp_all
theorem plus_eq {C:List Int}{x:Int}{s:Bool}{e:Nat}(he:e∈exps x)(hn:(s,e)∈form x→RNext C e)(eqs:(s,e)∈form x→RPlus C (x - tv (s,e)) s (e+1)): RPlus C x s e:=by
 intro W p fv fl vs v i H hx hr hi
 obtain⟨W0,bt,hW0,hbt,HP,HB⟩:=pst_start (s:=s) H hx hr hi
 obtain⟨va,vc,rfl⟩:=HP.out.shape
 have hlen:=HP.out.len
 have b0:=HP.out.b0
 have b1:=HP.out.b1
 obtain⟨n,hnl⟩:∃ n,n=(form x).length:=⟨_,rfl⟩
 rw[← hnl] at HP hlen
 rw[← hnl]
 have HN:=jH hnl
 have HQ:Hid (∀ y w',RPlusQ C W0 p fv fl vs (x+tv (s,e)) y w'→RPlusQ C W p fv fl vs (x+tv (s,e)) y w'):=fun y w' h=>h.pre HB.out
 clear hnl H hx hr hi
 go_enter Tryz.func113,Tryz.ntmps113
 go_wp2_with fail
 go_loopg [7] n (fun g1 vi wr=>∃ (k m:Nat),vi=.int .i64 k∧k≤n∧n - k≤g1∧wr=W0.drewN m∧Hid (∀ i<k,∀ u,(form x)[i]? = some u→e<u.2))
 case atStart=>exact⟨0,0,rfl,by omega,by omega,rfl,fun i hi=>by omega⟩
 case round =>
  obtain⟨k,m,rfl,hkn,hg,rfl,HK⟩:=hrel
  have hk0:(0:Int)≤(k:Int):=Int.natCast_nonneg k
  have hkw:IntKind.i64.wrap ((k:Int)+1)=(k:Int)+1:=IntWalk.i64_in _ (by omega)
  by_cases hk:k<n
  ·have hkz:(k:Int)<(n:Int):=by omega
   obtain⟨⟨su,eu⟩,hu⟩:∃ u,(form x)[k]? = some u:=⟨_,jG (by rw[← HN.out];exact hk)⟩
   obtain⟨ga,ca,d,hv,cu0,cu1,hd⟩:=HP.out.term hu
   rw[← HN.out] at hv
   cases hv
   have Hu:=jH hu
   have Hd:=jH hd
   have hC:∀ n,Calls Tryz.prog 84 #[.pointer (some ⟨p,0,none⟩),.int .i64 (d:Nat),.int .i64 (i:Nat)] (W0.drewN n) fun e' W'=>e'=.returned (.int .i64 (isg ((eu:Int) - e)))∧∃ m,W'=(W0.drewN n).drewN m:=fun n=>yO (HP.out.drewN n).rw hd HP.out.plc
   clear hd hu
   dsimp only at cu0 cu1
   by_cases hgt:e<eu
   ·have HK2:Hid (∀ i<k+1,∀ u,(form x)[i]? = some u→e<u.2):=fun i hi u hu=>if h:i=k then by
     subst h; rw[Hu.out] at hu; cases hu; exact hgt else HK.out i (by omega) u hu
    rw[isg_one hgt] at hC
    clear HK
    go_wp2_with fail
    go_quiet (first | (go_at_call 84; exact yN (hC _)))
    go_wp2_with fail
    go_roundg (n - (k+1))
    case measure=>omega
    case rel=>exact⟨k+1,m+nq,by go_num,by omega,by omega,rfl,HK2⟩
   ·have HCut:=jH (cut_at HK.out (fun u hu=>by rw[Hu.out] at hu; cases hu; show eu≤e; omega))
    have hc0:=isg_no hgt
    generalize isg ((eu:Int) - e)=c at hC hc0
    have hc1:¬ (0<c):=by simpa using hc0
    clear HK hg
    have heu:eu=e:=by
     have h1:=HCut.out
     have h2:e∈exps x:=he
     rw[q8 (List.take_append_drop k (form x)).symm,List.map_append,List.mem_append] at h2
     rcases h2 with h2 | h2
     ·obtain⟨t,ht,e1⟩:=List.mem_map.1 h2
      have:=h1.1 t ht; omega
     ·obtain⟨t,ht,e1⟩:=List.mem_map.1 h2
      have hn:=jb x
      rw[split_at Hu.out] at hn
      have h4:(form x).drop k=(su,eu)::(form x).drop (k+1):=by
       obtain⟨h3,h4⟩:=jL Hu.out
       rw[← h4,← List.drop_eq_getElem_cons h3]
      rw[h4] at ht
      rcases List.mem_cons.1 ht with rfl | ht
      ·exact e1
      ·have:=(List.pairwise_cons.1 (List.pairwise_append.1 hn).2.1).1 t ht
       dsimp only at this; omega
    subst heu
    have hdi:d=i:=(HP.out.rw.wv.same Hd.out HP.out.plc).2 rfl
    subst hdi
    have HWo:Hid (∀ M,Calls Tryz.prog 137 #[.slice (some ⟨ga,0,none⟩) n vc,.int .i64 (k:Nat)] (W0.drewN M) fun e W'=>∃ v',e=.returned v'∧Hid (RRow W' v' (pf vs (x - tv (su,eu))))∧Hid (Below (W0.drewN M).heap.size (W0.drewN M) W')∧Hid (∀ b,v'.ownBlock=some b→(W0.drewN M).heap.size≤b)):=fun M=>by
     have:=y9 (HP.out.drewN M).row (k:=k) (by rw[show (pf vs x).length=(form x).length by simp[pf],← HN.out];exact hk) (by rw[show (pf vs x).length=(form x).length by simp[pf],← HN.out];exact hlen)
     rwa [pf_del Hu.out] at this
    go_wp2_with fail
    go_quiet (first | (go_at_call 84; exact yN (hC _)))
    go_wp2_with fail
    go_quiet (fail)
    go_wp2_with fail
    by_cases hs:su=s
    ·subst hs
     have HNx:=jH (hn (jM Hu.out))
     have HRe:=jH (eqs (jM Hu.out))
     have HZ:Hid (x - tv (su,eu)+tv (su,eu+1)=x+tv (su,eu)):=by show _=_; rw[j6];omega
     clear hn eqs hC hkw hc0 hc1
     go_quiet (fail)
     go_wp2_with fail
     go_region_held3 (fun w'=>w'.cell? ⟨bt,0,none⟩=some (.bool su)∧w'.cell? ⟨bt,1,none⟩=some (.int .i64 (d:Nat))) (first | go_keep | exact⟨hk0',hk1'⟩)
      (first
        | (go_at_call 137; refine (HWo.out _).mono ?_; rintro y w1 ⟨v1,rfl,hr1,hb1,-⟩
           have HP1:=jH ((HP.out.drewN _).below hb1.out)
           have HB1:=jH (Below.trans (jN W0 _) hb1.out)
           have hk0':=HP1.out.b0
           have hk1':=HP1.out.b1
           have hcN:=HNx.out w1 p fv fl vs d HP1.out.rw HP1.out.plc
           clear hb1)
        | (go_at_call 114; refine hcN.mono ?_; rintro y w2 ⟨d2,fv2,fl2,vs2,rfl,hp2,hd2⟩
           have hr2:=hr1.out.fr HP1.out.rw hp2.out.fr
           have HX:=exs_del Hu.out HP1.out.exs
           rw[← pf_put hp2.out HP1.out.rw.wv HX] at hr2
           have HP2:=jH (HP1.out.put hp2.out)
           have hk0':=HP2.out.b0
           have hk1':=HP2.out.b1
           have hcP:=HRe.out w2 p fv2 fl2 vs2 v1 d2 HP2.out.rw (fun j hj=>qN hp2.out.ext (HX j hj)) hr2 hd2.out
           clear hr2 HX hcN)
        | (go_at_call 113; refine hcP.mono ?_; rintro y w3 ⟨v3,fv3,fl3,vs3,rfl,hp3,hx3,hr3⟩
           have hk0':=(HP2.out.put hp3.out).b0
           have hk1':=(HP2.out.put hp3.out).b1))
     go_wp2_with fail
     go_ret
     refine HQ.out _ _ ⟨v3,fv3,fl3,vs3,rfl,(hp2.out.trans hp3.out).pre HB1.out,?_,?_⟩
     ·rw[← HZ.out];exact hx3
     ·rw[← HZ.out];exact hr3
    ·have hso:=bool_ne hs
     subst hso
     clear hs hn eqs hC
     have hsn:(su != !su)=true:=by cases su <;>rfl
     go_quiet (fail)
     go_wp2_with fail
     refine (HWo.out _).mono ?_
     rintro y w1 ⟨v1,rfl,hr1,hb1,-⟩
     go_wp2_with fail
     go_ret
     refine HQ.out _ _ (PSt.ends HP.out.rw (Below.trans (jN W0 _) hb1.out) ?_ ?_)
     ·rw[qX,show x+-tv (su,eu)=x - tv (su,eu) by omega];exact exs_del Hu.out HP.out.exs
     ·rw[qX,show x+-tv (su,eu)=x - tv (su,eu) by omega];exact hr1.out
  ·obtain rfl:n=k:=by omega
   have HCut:=jH (cut_at HK.out (fun u hu=>absurd (jL hu).1 (by rw[← HN.out];omega)))
   clear HK hg hk
   exfalso
   obtain⟨t,ht,e1⟩:=List.mem_map.1 he
   have:=HCut.out.1 t (by rw[List.take_of_length_le (by rw[← HN.out];omega)];exact ht)
   omega
end
end Sr
