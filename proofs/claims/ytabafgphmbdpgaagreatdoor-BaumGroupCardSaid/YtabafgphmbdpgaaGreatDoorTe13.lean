/- Texts of this claim, joined: NextW, Sum2, Conc, Sign, Sh, Take2, GiveP. -/
import Derived.Test.YtabafgphmbdpgaaGreatDoorTe1
import Derived.Test.YtabafgphmbdpgaaGreatDoorTe3
import Derived.Test.YtabafgphmbdpgaaGreatDoorTe4
import Derived.Test.YtabafgphmbdpgaaGreatDoorTe12
import Derived.Lib.AppendZeros
import Derived.Deep.Upon
import Derived.Lib.Hide
set_option maxHeartbeats 8000000
set_option maxRecDepth 100000
namespace Sr
open Go Go.Proofs Go.RowKit Go.Maps Go.WideMaps Go.Sort
section
variable {e:Nat}
section
variable {C:List Nat} {W:World} {p:Nat} {F:List Nat} {D:WD} {vs:List Int} {gk:List Nat} {m:Nat}
theorem WO.lookGrt (h:WO C W p F D vs gk m){a:Nat}(ha:vs[a]? = some (e:Int)):
 (e∉gk∧∀ W',W'.heap[D.mg]? = W.heap[D.mg]?→(Instr.lookup 122 (.map (some D.mg)) (.int .i64 (a:Nat)) true).run Tryz.prog W'=.ok (.tuple #[.int .i64 0,.bool false]) W') ∨
 (∃ b:Nat,vs[b]? = some ((e+1:Nat):Int)∧∀ W',W'.heap[D.mg]? = W.heap[D.mg]?→(Instr.lookup 122 (.map (some D.mg)) (.int .i64 (a:Nat)) true).run Tryz.prog W'=.ok (.tuple #[.int .i64 (b:Nat),.bool true]) W'):=by
 have hv:=h.vlen
 have la:a<vs.length:=(jL ha).1
 have hl:=keyInt (wfNat (a:=a) (by omega))
 obtain⟨f,h1,h2,h3⟩:=h.grt
 cases hf:f (.int .i64 (a:Nat)) with
 | none =>
   left
   refine⟨fun he=>?_,fun W' hW=>by have:=(h1.kept hW).look true law3 Tryz.underlying122 (zero3 W') hl; simpa [hf] using this⟩
   obtain⟨i,k1,k2⟩:=h3 e he
   have:i=a:=(h.wv.idx_get k1).symm.trans (h.wv.idx_get ha)
   subst this
   exact k2 hf
 | some v =>
   right
   obtain⟨i,j,e',k1,k2,k3,rfl,_⟩:=h2 _ _ hf
   have e1:(a:Int)=i:=by simpa using k3
   have e2:i=a:=by omega
   subst e2
   rw[ha] at k1
   have e3:e'=e:=by have:=Option.some.inj k1; omega
   subst e3
   exact⟨j,by rw[k2];simp,fun W' hW=>by have:=(h1.kept hW).look true law3 Tryz.underlying122 (zero3 W') hl; simpa [hf] using this⟩
theorem WO.setGrt (h:WO C W p F D vs gk (m+1)){a b:Nat}(ha:vs[a]? = some (e:Int))(hb:vs[b]? = some ((e+1:Nat):Int))(he:e∉gk)(hC:e∈C):
 ∃ W3,(Instr.mapUpdate 122 (.map (some D.mg)) (.int .i64 (a:Nat)) (.int .i64 (b:Nat))).run Tryz.prog W=.ok () W3∧WO C W3 p F D vs (e::gk) m∧Fr F W W3:=by
 have hv:=h.vlen
 have la:a<vs.length:=(jL ha).1
 have hl:=keyInt (wfNat (a:=a) (by omega))
 obtain⟨f,h1,h2,h3⟩:=h.grt
 obtain⟨W3,hrun,hm,hs,hg⟩:=h1.store law3 Tryz.underlying122 (v:=.int .i64 (b:Nat)) hl
 have hk:∀ b,b<W.heap.size→b≠D.mg→W3.heap[b]? = W.heap[b]?:=fun b hb hn=>hg.block b hb (by intro e; cases e; exact hn rfl)
 have hlen:=h.len
 have hbnd:=h.bnd
 have hw:WO C W3 p F D vs (e::gk) (m+1):=h.maps (fun b hbF hc=>hk b (h.blt b hbF) (qD hc h1)) (by omega)
  (by obtain⟨f,k1,k2⟩:=h.plc; exact⟨f,k1.kept (hk _ k1.lt h.ne.1),k2⟩)
  (by
    refine⟨_,hm,fun k v hkv=>?_,fun e' he'=>?_⟩
    ·unfold updF at hkv
     split at hkv
     ·rename_i e1; cases hkv; exact⟨a,b,e,ha,by rw[hb];simp,e1,rfl,by simp⟩
     ·obtain⟨i,j,e',k1,k2,k3,k4,k5⟩:=h2 k v hkv
      exact⟨i,j,e',k1,k2,k3,k4,List.mem_cons_of_mem _ k5⟩
    ·unfold updF
     rcases List.mem_cons.1 he' with rfl | he'
     ·exact⟨a,ha,by rw[if_pos rfl];simp⟩
     ·obtain⟨i,k1,k2⟩:=h3 e' he'
      refine⟨i,k1,?_⟩
      split
      ·simp
      ·exact k2)
  (by obtain⟨f,k1,k2⟩:=h.ord; exact⟨f,k1.kept (hk _ k1.lt h.ne.2.2.symm),k2⟩)
  (List.nodup_cons.2 ⟨he,h.gnd⟩) (fun e' he'=>by rcases List.mem_cons.1 he' with rfl | he'; exact hC; exact h.cov e' he') (by simp; omega)
 refine⟨W3,hrun,hw.weaken (by simp; omega) (by omega),Fr.of_grown hg (by omega) h.inF.2.2.1⟩
end
theorem ptv_next {vs:List Int}(h:WV vs)(he:(e:Int)∈vs): ptv vs (pf vs (e:Int)++[(false,0)])=((e+1:Nat):Int):=by
 rw[ptv_append,ptv_pf h (fun x hx=>h.mem_exps he hx)]
 have:ptv vs [(false,0)]=1:=by
  simp[ptv,lv,tv,zE h.zero]
 rw[this];simp
theorem next_step {C:List Nat}{p m J:Nat}{P:List Nat}(hB:Base P J)(hJ:J≤4096)(hC:∀ q∈P,∀ j,j≤J→q+j∈C)(hm:m+1+C.length≤2147483648)(e:Nat)(hch:∃ q∈P,∃ j,j<J∧e=q+j) 
 (ih:∀ x,x<e→(∃ q∈P,∃ j,j<J∧x=q+j)→NextC C p m x):NextC C p m e:=by
 intro W F D vs gk a H ha
 have Ha:Hid (vs[a]? = some (e:Int)):=ha
 have la:a<vs.length:=(jL ha).1
 have laz:(a:Int)<(vs.length:Int):=by omega
 have a0:(0:Int)≤(a:Int):=by omega
 have hc2:=H.out.c2
 rcases H.out.lookGrt ha with ⟨hn,HL⟩ | ⟨b,hb,HL⟩
 ·have hlk:=HL W rfl
  have hmem:(e:Int)∈vs:=jM ha
  obtain⟨g,cap,hfv,hgF,hrow⟩:=H.out.formAt
  obtain⟨va,_,cva,hva,_⟩:=hrow a e ha
  have hp0:W.cell? ⟨p,0,none⟩=some (.slice (some ⟨g,0,none⟩) vs.length cap):=by rw[← hfv];exact H.out.c0
  have hfl:(pf vs (e:Int)).length+2≤1024:=by
   obtain⟨q,hq,j,hj,rfl⟩:=hch
   have:=hB.len q hq j (by omega)
   unfold pf; rw[List.length_map];omega
  have HCl:=zX hva (by omega)
  have HSum:Hid (∀ (w2:World) (v2:Value),WO C w2 p F D vs gk m→TRow w2 v2 (pf vs (e:Int)++[(false,0)]) →
   Calls Tryz.prog 104 #[.pointer (some ⟨p,0,none⟩),v2] w2 fun x W'=>∃ (F':List Nat) (D':WD) (vs':List Int) (gk':List Nat) (v':Value),x=.returned v'∧Hid (TRow W' v' (pf vs' ((e+1:Nat):Int)))∧Hid (∀ x∈exps ((e+1:Nat):Int),(x:Int)∈vs') ∧
    Hid (∀ b,v'.ownBlock=some b→w2.heap.size≤b∧b∉F')∧Hid (Gw C w2 W' p F F' D' vs vs' gk gk' m e)):=fun w2 v2 hw hr=>by
   have hT:=ptv_next hw.wv hmem
   have:=sum_calls (P:=P) (N:=e) (J:=J) hw v2 _ hr hJ (by
    obtain⟨q,hq,j,hj,hqe⟩:=hch
    have:=hB.len q hq j (by omega)
    rw[← hqe] at this
    simp only[List.length_append,List.length_map,List.length_cons,List.length_nil,pf];omega)
    (fun t ht=>by
      rcases List.mem_append.1 ht with ht | ht
      ·obtain⟨u,hu,rfl⟩:=List.mem_map.1 ht
       have hx:=mem_exps hu
       refine⟨u.2,jU (hw.wv.mem_exps hmem hx),?_,Nat.le_of_lt (qz hx)⟩
       obtain⟨q,hq,j,hj,rfl⟩:=hch
       exact hB.exps q hq j (by omega) _ hx
      ·obtain rfl:t=(false,0):=by simpa using ht
       exact⟨0,hw.wv.zero,hB.zero,Nat.zero_le _⟩)
    (fun x hx=>by
      rw[hT] at hx
      have:=Nat.lt_two_pow_self (n:=x)
      have h2:(((e+1:Nat):Int)).natAbs=e+1:=by omega
      omega)
    ih
   rw[hT] at this
   refine this.mono ?_
   rintro x W' ⟨F',D',vs',gk',v',rfl,k1,k2,k3,k4⟩
   refine⟨F',D',vs',gk',v',rfl,k1,fun y hy=>?_,k3,k4⟩
   obtain⟨t,ht,rfl⟩:=List.mem_map.1 hy
   exact k2.out t ht
  have hCe:Hid (e∈C):=by
   obtain⟨q,hq,j,hj,rfl⟩:=hch
   exact hC q hq j (by omega)
  have HM:Hid (m+1+C.length≤2147483648):=hm
  clear HL hrow hva ih hB hC hJ hm hch
  go_enter Tryz.func134,Tryz.ntmps134
  go_wp2_with fail
  refine HCl.mono ?_
  rintro x w1 ⟨v1,rfl,hr1,hb1,ho1⟩
  have hol:(pf vs (e:Int)).length+1≤1099511627776:=by omega
  have HR1:Hid (∀ o,TRow (w1.alloc o) v1 (pf vs (e:Int))):=fun o=>World.ownsRow.alloc hr1.out o
  have HB1:Hid (∀ o,Below W.heap.size W (w1.alloc o)):=fun o=>hb1.out.alloc hb1.out.size o
  clear HCl hr1
  go_wp2_with (at_builtin; go_loud (refine app_T1 rfl _ _ rfl v1 (pf vs (e:Int)) rfl (HR1.out _) w1.heap.size (false,0) rfl (jD _ _) hol ?_);intro v2 w2 K2 G2 N2 A2)
  have hb2:Below W.heap.size W w2:=(HB1.out _).grown G2 (HB1.out _).size (fun b hb=>ho1.out b hb)
  have hw2:WO C w2 p F D vs gk m:=H.out.below hb2
  have HS:=HSum.out w2 v2 hw2 K2
  have HF2:Hid (Fr F W w2):=Fr.of_below hb2
  clear hb2 hw2 K2 G2 N2 A2 HSum HR1 HB1 ho1 hb1
  refine HS.mono ?_
  rintro x w3 ⟨F3,D3,v3s,g3,v3,rfl,hr3,hx3,ho3,hg3⟩
  have HI:=id_calls hg3.out.wo v3 ((e+1:Nat):Int) hx3.out hr3.out HM.out
  clear HS hr3 hx3
  go_wp2_with fail
  refine HI.mono ?_
  rintro x w4 ⟨F4,D4,rfl,hput⟩
  have hpre4:vs <+: putIn v3s ((e+1:Nat):Int):=hg3.out.pre.trans (zK _ _)
  have hen:e∉g3:=fun h=>by rcases hg3.out.new e h with h1 | h1; exact hn h1; omega
  obtain⟨W5,hrun,HW5,HF5⟩:=hput.out.wo.setGrt (a:=a) (b:=(putIn v3s ((e+1:Nat):Int)).idxOf ((e+1:Nat):Int)) (e:=e) (jW hpre4 ha) (jU (qt _ _)) hen hCe.out
  have hA:FE F W F3 w3:=FE.trans ⟨HF2.out,fun _ hb=>.inl hb⟩ ⟨hg3.out.fr,hg3.out.sub⟩
  have hBB:FE F W F3 w4:=FE.trans hA ⟨hput.out.fr,fun _ hb=>.inl hb⟩
  have hCC:FE F W F4 w4:=⟨hBB.fr,fun b hb=>by
   rcases hput.out.sub b hb with h1 | h1 | h1
   ·exact hA.sub b h1
   ·exact .inr (Nat.le_trans hA.fr.size h1)
   ·exact .inr (Nat.le_trans HF2.out.size (ho3.out b h1).1)⟩
  have hDD:FE F W F4 W5:=FE.trans hCC ⟨HF5,fun _ hb=>.inl hb⟩
  have HQ:Hid (Gw C W W5 p F F4 D4 vs (putIn v3s ((e+1:Nat):Int)) gk (e::g3) m (e+1)):=⟨HW5,hDD.fr,hDD.sub,hpre4,fun y hy=>by
   rcases List.mem_cons.1 hy with rfl | hy
   ·exact .inr (Nat.lt_succ_self _)
   ·rcases hg3.out.new y hy with h1 | h1
    ·exact .inl h1
    ·exact .inr (by omega)⟩
  have hc2':=hput.out.wo.c2
  have HP:Hid ((putIn v3s ((e+1:Nat):Int))[(putIn v3s ((e+1:Nat):Int)).idxOf ((e+1:Nat):Int)]? = some ((e+1:Nat):Int)):=jU (qt _ _)
  generalize (putIn v3s ((e+1:Nat):Int)).idxOf ((e+1:Nat):Int)=bb at *
  generalize putIn v3s ((e+1:Nat):Int)=v4 at *
  clear HI hg3 ho3 hput hpre4 hen HW5 HF5 hA hBB hCC hDD hc2 hp0 cva
  go_wp2_with fail
  go_ret
  exact⟨F4,D4,v4,e::g3,bb,rfl,HP,HQ⟩
 ·have hlk:=HL W rfl
  have Hb:Hid (vs[b]? = some ((e+1:Nat):Int)):=hb
  clear HL hb
  go_enter Tryz.func134,Tryz.ntmps134
  go_wp2_with fail
  go_ret
  exact⟨F,D,vs,gk,b,rfl,Hb,Gw.refl _ H.out⟩
theorem wnext_calls {C:List Nat}{p m J:Nat}{P:List Nat}(hB:Base P J)(hJ:J≤4096)(hC:∀ q∈P,∀ j,j≤J→q+j∈C)(hm:m+1+C.length≤2147483648): ∀ e,(∃ q∈P,∃ j,j<J∧e=q+j)→NextC C p m e:=by
 intro e
 induction e using Nat.strongRecOn with
 | _ e ih=>exact fun h=>next_step hB hJ hC hm e h ih
end
end Sr
namespace Sr
open Go Go.Proofs Go.RowKit Go.Maps Go.WideMaps
section
structure Cov (P:List Nat)(C:List Nat)(m:Nat): Prop where
 base:Base P 4096
 cov:∀ q∈P,∀ j,j≤4096→q+j∈C
 room:m+1+C.length≤2147483648
structure Grow (C:List Nat)(W W':World)(p:Nat)(F F':List Nat)(D':WD)(vs vs':List Int)(gk':List Nat)(m:Nat): Prop where
 wo:WO C W' p F' D' vs' gk' m
 fe:FE F W F' W'
 pre:vs <+: vs'
variable {vs:List Int}
theorem Gw.grow {C:List Nat}{W W':World}{p:Nat}{F F':List Nat}{D':WD}{vs':List Int}{gk gk':List Nat}{m N:Nat}(h:Gw C W W' p F F' D' vs vs' gk gk' m N): Grow C W W' p F F' D' vs vs' gk' m:=⟨h.wo,⟨h.fr,h.sub⟩,h.pre⟩
theorem bound_of {vs:List Int}: ∀ {l:List PT},(∀ t∈l,∃ e:Nat,vs[t.2]? = some (e:Int))→∃ N:Nat,∀ t∈l,∀ e:Nat,vs[t.2]? = some (e:Int)→e≤N
 | [],_=>⟨0,fun t ht=>by simp at ht⟩
 | t::l,h=>by
   obtain⟨N,hN⟩:=bound_of (l:=l) fun t ht=>h t (by simp[ht])
   obtain⟨e,he⟩:=h t (by simp)
   refine⟨N+e,fun u hu x hx=>?_⟩
   rcases List.mem_cons.1 hu with rfl | hu
   ·rw[he] at hx; have:=Option.some.inj hx; omega
   ·have:=hN u hu x hx; omega
theorem wsum_calls {P C:List Nat}{m:Nat}(hc:Cov P C m){W:World}{p:Nat}{F:List Nat}{D:WD}{gk:List Nat}(h:WO C W p F D vs gk m){v:Value}{l:List PT}(hl:TRow W v l)(hlen:l.length≤1023) 
 (hok:∀ t∈l,∃ e:Nat,vs[t.2]? = some (e:Int)∧e∈P) :
 Calls Tryz.prog 104 #[.pointer (some ⟨p,0,none⟩),v] W fun x W'=>∃ (F':List Nat) (D':WD) (vs':List Int) (gk':List Nat) (v':Value),x=.returned v'∧Hid (TRow W' v' (pf vs' (ptv vs l)))∧Hid (∀ x∈exps (ptv vs l),(x:Int)∈vs') ∧
  Hid (∀ b,v'.ownBlock=some b→W.heap.size≤b∧b∉F')∧Hid (Grow C W W' p F F' D' vs vs' gk' m):=by
 obtain⟨N,hN⟩:=bound_of (vs:=vs) (l:=l) fun t ht=>by obtain⟨e,he,_⟩:=hok t ht; exact⟨e,he⟩
 have:=sum_calls (P:=P) (N:=N+(ptv vs l).natAbs) (J:=4096) h v l hl (jR _) (by omega)
  (fun t ht=>by obtain⟨e,he,hp⟩:=hok t ht; exact⟨e,he,hp,by have:=hN t ht e he; omega⟩)
  (fun x hx=>by have:=Nat.lt_two_pow_self (n:=x);omega)
  (fun e _ hch=>wnext_calls hc.base (jR _) hc.cov hc.room e hch)
 refine this.mono ?_
 rintro x W' ⟨F',D',vs',gk',v',rfl,k1,k2,k3,k4⟩
 refine⟨F',D',vs',gk',v',rfl,k1,fun y hy=>?_,k3,k4.out.grow⟩
 obtain⟨t,ht,rfl⟩:=List.mem_map.1 hy
 exact k2.out t ht
end
theorem zeros_run (n:Nat)(h0:0<n)(hn:n≤1000000000)(W:World): ∃ (cap:Nat) (cells:Array Value),n≤cap∧cap≤maxLen∧cells.size=cap*2 ∧
 (Builtin.append_ #[111,3] 111 #[.slice none 0 0,.int .i64 (n:Nat)]).run Tryz.prog W=.ok (.slice (some ⟨W.heap.size,0,none⟩) n cap) (W.drew.alloc (.cells cells 154)):=by
 obtain⟨i,hi,hz0,hz1,hz2⟩:=info_parts info154
 refine⟨_,_,grownCap_ge W n 0 154,grownCap_le_maxLen W n 0 154 (by simp only[maxLen];omega),?_,Lib.run_append_nil_zeros W 111 3 111 154 i _ .i64 .i64 un111 Tryz.underlying3 hi hz0 n h0 (by omega) (by omega) (by rw[hz2];omega)⟩
 have:=grownCap_ge W n 0 154
 rw[Array.size_append,size_zeroCells,size_zeroCells]
 show n*2+(grownCap W n 0 154 - n)*2=grownCap W n 0 154*2
 omega
theorem grow_calls (n:Nat)(hn:n≤1000000000)(W:World): Calls Tryz.prog 135 #[.slice none 0 0,.int .i64 (n:Nat)] W fun x W'=>∃ v',x=.returned v'∧Hid (TRow W' v' [])∧Hid (Below W.heap.size W W')∧Hid (∀ b,v'.ownBlock=some b→W.heap.size≤b):=by
 have hw:IntKind.i64.wrap (n:Int)=(n:Int):=IntWalk.i64_in _ (by omega)
 have h0:¬ ((n:Int)<0):=by omega
 by_cases hz:n=0
 ·subst hz
  go_enter Tryz.func135,Tryz.ntmps135
  go_wp2_with fail
  go_ret
  exact⟨_,rfl,⟨rfl,.inl ⟨rfl,rfl⟩⟩,Below.refl _ _,fun b hb=>by cases hb⟩
 ·have hp:(0:Int)<(n:Int):=by omega
  obtain⟨cap,cells,hc1,hc2,hc3,hrz⟩:=zeros_run n (by omega) hn W
  have HC:Hid (n≤cap∧cap≤maxLen∧cells.size=cap*2):=⟨hc1,hc2,hc3⟩
  clear hc1 hc2 hc3
  go_enter Tryz.func135,Tryz.ntmps135
  go_wp2_with (at_builtin; go_loud (refine Lib.wpList_append_run _ rfl _ _ _ _ rfl _ _ rfl rfl _ _ hrz ?_))
  go_ret
  obtain⟨k1,k2,k3⟩:=HC.out
  refine⟨_,rfl,?_,((Below.refl W.heap.size W).alloc (jR _) (.cells cells 154)).drew,fun b hb=>by cases hb; exact jR _⟩
  exact⟨rfl,.inr ⟨W.heap.size,cap,cells,rfl,Nat.zero_le _,jD W _,Nat.zero_le _,k2,k3,by simp; rfl⟩⟩
theorem app_none_run {W:World}{v:Value}{l:List PT}(h:TRow W v l): (Builtin.append_ #[111,111] 111 #[v,.slice none 0 0]).run Tryz.prog W=.ok v W:=by
 obtain⟨i,hi,hz0,hz1,hz2⟩:=info_parts info154
 obtain⟨_,⟨rfl,h2⟩ | ⟨g,cap,cur,rfl,_,_,h5,_⟩⟩:=h
 ·exact run_append_nothing W 111 111 111 154 i un111 hi none 0 0 (jR _) _ (Src.ofNil W un111 0)
 ·exact run_append_nothing W 111 111 111 154 i un111 hi _ _ _ h5 _ (Src.ofNil W un111 0)
def lens (ls:List (Value×List PT)): Nat:=(ls.flatMap (·.2)).length
theorem lens_snoc (ls:List (Value×List PT))(x:Value×List PT): lens (ls++[x])=lens ls+x.2.length:=by simp[lens]
theorem lens_take (ls:List (Value×List PT))(k:Nat): lens (ls.take k)≤lens ls:=by
 unfold lens
 have:ls.flatMap (·.2)=(ls.take k).flatMap (·.2)++(ls.drop k).flatMap (·.2):=by rw[← List.flatMap_append,List.take_append_drop]
 rw[this,List.length_append];omega
theorem concat_calls {W:World}{v:Value}{ls:List (Value×List PT)}(hv:W.ownsRow 0 111 1 v ls.length (ls.map Prod.fst))(hr:∀ x∈ls,TRow W x.1 x.2)(hn:lens ls≤1000000)(hk:ls.length≤1000):
 Calls Tryz.prog 105 #[v] W fun x W'=>∃ v',x=.returned v'∧Hid (TRow W' v' (ls.flatMap (·.2)))∧Hid (Below W.heap.size W W')∧Hid (∀ b,v'.ownBlock=some b→W.heap.size≤b):=by
 have HV:Hid _:=hv
 have HR:Hid (∀ x∈ls,TRow W x.1 x.2):=hr
 obtain⟨vb,vc,rfl⟩:∃ vb vc,v=.slice vb ls.length vc:=by
  obtain⟨_,⟨rfl,h2⟩ | ⟨g,cap,cur,rfl,_⟩⟩:=hv
  ·exact⟨none,0,by rw[h2]⟩
  ·exact⟨_,cap,rfl⟩
 clear hv hr
 go_enter Tryz.func105,Tryz.ntmps105
 go_wp2_with fail
 go_loopg [3,11] ls.length (fun g1 vs vi wr=>∃ (k:Nat),vs=.int .i64 (lens (ls.take k):Nat)∧vi=.int .i64 k∧k≤ls.length∧ls.length - k≤g1∧W=wr)
 case atStart=>exact⟨0,rfl,rfl,by omega,by omega,rfl⟩
 case round =>
  obtain⟨k,rfl,rfl,hkl,hg,rfl⟩:=hrel
  by_cases hkk:k<ls.length
  ·have hkz:(k:Int)<(ls.length:Int):=by omega
   have hk0:(0:Int)≤(k:Int):=Int.natCast_nonneg k
   have hkw:IntKind.i64.wrap ((k:Int)+1)=(k:Int)+1:=IntWalk.i64_in _ (by omega)
   obtain⟨⟨u,l⟩,hx⟩:∃ x,ls[k]? = some x:=⟨_,jG hkk⟩
   obtain⟨g,cap,e1,hc⟩:=qS HV.out (k:=k) (x:=u) (by rw[List.getElem?_map,hx];rfl)
   cases e1
   obtain⟨ua,uc,e2,_,_⟩:=(HR.out _ (jM hx)).shape
   dsimp only at e2
   subst e2
   have hl2:=lens_take ls (k+1)
   have hls:lens (ls.take (k+1))=lens (ls.take k)+l.length:=by rw[j8 hx,lens_snoc]
   obtain⟨s,hs⟩:∃ s,s=lens (ls.take k):=⟨_,rfl⟩
   rw[← hs] at hls
   simp only[← hs]
   have hsw:IntKind.i64.wrap ((s:Int)+(l.length:Int))=(s:Int)+(l.length:Int):=IntWalk.i64_in _ (by omega)
   have hs0:¬ ((s:Int)+(l.length:Int)<0):=by omega
   have HL:Hid (lens (ls.take (k+1))=s+l.length):=hls
   clear hs hls hl2 hx
   go_wp2_with fail
   go_roundg (ls.length - (k+1))
   case measure=>omega
   case rel=>exact⟨k+1,by rw[HL.out];push_cast; rfl,by go_num,by omega,by omega,rfl⟩
  ·have hkz:¬ ((k:Int)<(ls.length:Int)):=by omega
   have hkl2:lens (ls.take k)=lens ls:=by rw[List.take_of_length_le (by omega)]
   rw[hkl2]
   have HG:=grow_calls (lens ls) (by omega) W
   go_wp2_with fail
   refine HG.mono ?_
   rintro x w1 ⟨v1,rfl,hr1,hb1,ho1⟩
   have hb0:Hid (∀ b,v1.ownBlock=some b→W.heap.size≤b):=ho1
   go_wp2_with fail
   go_loopg [6,27] ls.length (fun g1 vx vi w2=>∃ (k:Nat) (ux:Value),vx=ux∧vi=.int .i64 k∧k≤ls.length∧ls.length - k≤g1∧Hid (TRow w2 ux ((ls.take k).flatMap (·.2)))∧Hid (Below W.heap.size W w2)∧Hid (∀ b,ux.ownBlock=some b→W.heap.size≤b))
   case atStart=>exact⟨0,_,rfl,rfl,by omega,by omega,hr1,hb1,hb0⟩
   case round =>
    clear hr1 hb1 hb0 ho1
    obtain⟨k,ux,rfl,rfl,hkl,hg,HT,HB,HO⟩:=hrel
    by_cases hkk:k<ls.length
    ·have hkz:(k:Int)<(ls.length:Int):=by omega
     have hk0:(0:Int)≤(k:Int):=Int.natCast_nonneg k
     have hkw:IntKind.i64.wrap ((k:Int)+1)=(k:Int)+1:=IntWalk.i64_in _ (by omega)
     obtain⟨⟨u,l⟩,hx⟩:∃ x,ls[k]? = some x:=⟨_,jG hkk⟩
     obtain⟨g,cap,e1,hc⟩:=qS (jK HV.out HB.out) (k:=k) (x:=u) (by rw[List.getElem?_map,hx];rfl)
     cases e1
     have hu:=HR.out _ (jM hx)
     dsimp only at hu
     have hfm:Hid ((ls.take (k+1)).flatMap (·.2)=(ls.take k).flatMap (·.2)++l):=by
      show _=_
      rw[j8 hx,List.flatMap_append];simp
     have hll:((ls.take k).flatMap (·.2)).length+l.length≤1099511627776:=by
      have h1:=lens_take ls (k+1)
      unfold lens at h1
      rw[hfm.out,List.length_append] at h1
      have h2:=hn
      unfold lens at h2
      omega
     clear hx
     obtain⟨h1,⟨rfl,h2⟩ | ⟨g2,cap2,cur,rfl,h3,h4,h5,h6,h7,h8⟩⟩:=hu
     ·have hl0:l=[]:=List.length_eq_zero_iff.1 h2
      have hrun:=app_none_run HT.out
      have HT2:Hid (TRow wr u6 ((ls.take (k+1)).flatMap (·.2))):=by
       show TRow _ _ _
       rw[hfm.out,hl0,List.append_nil];exact HT.out
      clear h1 h2 hl0 hll
      go_wp2_with (at_builtin; go_loud (refine Lib.wpList_append_run _ rfl _ _ _ _ rfl _ _ rfl rfl _ _ hrun ?_))
      go_roundg (ls.length - (k+1))
      case measure=>omega
      case rel=>exact⟨k+1,u6,rfl,by go_num,by omega,by omega,HT2,HB,HO⟩
     ·have HU:Hid (TRow W (.slice (some ⟨g2,0,none⟩) l.length cap2) l):=⟨h1,.inr ⟨g2,cap2,cur,rfl,h3,h4,h5,h6,h7,h8⟩⟩
      have HN:Hid (∀ j x,(tcells l)[j]? = some x→wr.cell? ((⟨g2,0,none⟩:Addr).add j)=some x):=fun j x hx=>(jK HU.out HB.out).cells (g:=g2) rfl j x hx
      clear h1 h3 h4 h5 h6 h7 h8
      go_wp2_with (at_builtin; go_loud (refine app_T rfl _ _ rfl u6 ((ls.take k).flatMap (·.2)) rfl HT.out ⟨g2,0,none⟩ cap2 l.length l rfl rfl HN.out hll ?_);intro v' w3 K3 G3 N3 A3)
      go_roundg (ls.length - (k+1))
      case measure=>omega
      case rel =>
       refine⟨k+1,v',rfl,by go_num,by omega,by omega,?_,HB.out.grown G3 HB.out.size (fun b hb=>HO.out b hb),?_⟩
       ·show TRow _ _ _
        rw[hfm.out];exact K3
       ·intro b hb
        rcases A3 with A3 | A3
        ·exact HO.out b (A3▸hb)
        ·rw[A3] at hb; cases hb; exact HB.out.size
    ·have hkz:¬ ((k:Int)<(ls.length:Int)):=by omega
     have HT2:Hid (TRow wr u6 (ls.flatMap (·.2))):=by
      have:=HT.out
      rw[List.take_of_length_le (by omega)] at this
      exact this
     go_wp2_with fail
     go_ret
     exact⟨_,rfl,HT2,HB,HO⟩
def signT:List PT→Int
 | []=>0
 | t::_=>sg t.1
theorem sign_calls {W:World}{v:Value}{l:List PT}(hl:TRow W v l): Calls Tryz.prog 62 #[v] W fun e W'=>e=.returned (.int .i64 (signT l))∧W'=W:=by
 obtain⟨a,c,rfl,_,hs⟩:=hl.shape
 cases l with
 | nil =>
   clear hl hs
   go_enter Tryz.func62,Tryz.ntmps62
   go_wp2_with fail
   go_ret
   exact⟨rfl,rfl⟩
 | cons t l =>
   obtain⟨g,rfl,c0,c1⟩:=hs 0 t rfl
   rw[Nat.zero_mul] at c0
   obtain⟨n,hn⟩:∃ n,n=(t::l).length:=⟨_,rfl⟩
   have hn2:¬ ((n:Int)=0):=by rw[hn,List.length_cons];omega
   have hn3:((n:Int)==0)=false:=by simpa using hn2
   have hn4:(0:Int)<(n:Int):=by rw[hn,List.length_cons];omega
   rw[← hn]
   clear hl hs c1 hn
   obtain⟨s,k⟩:=t
   cases s
   all_goals
    go_enter Tryz.func62,Tryz.ntmps62
    go_wp2_with fail
    go_ret
    exact⟨rfl,rfl⟩
theorem signT_pf (vs:List Int)(x:Int): signT (pf vs x)=isg x:=by
 have hv:=jc x
 have hn:=jb x
 unfold pf
 cases hf:form x with
 | nil=>rw[hf] at hv; simp only[lv] at hv; rw[← hv];rfl
 | cons t l =>
   rw[hf] at hv hn
   obtain⟨s,e⟩:=t
   have hp:=jk e
   cases s
   ·have:=zs hn
    rw[hv] at this
    rw[zu (by omega)];rfl
   ·have:=zt hn
    rw[hv] at this
    rw[za (by omega)];rfl
end Sr
namespace Sr
section
def shl (x y:Int): List Tm:=(form x).map fun t=>(t.1,((t.2:Int)+y).toNat)
def shx (x y:Int): Int:=lv (shl x y)
def shOK (x y:Int): Prop:=∀ e∈exps x,0≤(e:Int)+y
variable {x y:Int}
theorem shl_naf (h:shOK x y): Naf (shl x y):=by
 unfold Naf shl
 rw[List.pairwise_map]
 refine (jb x).imp_of_mem fun {a b} ha hb hab=>?_
 have h1:=h a.2 (mem_exps ha)
 have h2:=h b.2 (mem_exps hb)
 show ((b.2:Int)+y).toNat+1<((a.2:Int)+y).toNat
 omega
theorem yP (h:shOK x y): form (shx x y)=shl x y:=zS (shl_naf h) rfl
theorem exps_shx (h:shOK x y): exps (shx x y)=(exps x).map fun (e:Nat)=>((e:Int)+y).toNat:=by
 unfold exps; rw[yP h,shl,List.map_map,List.map_map];rfl
theorem shx_nat (x:Int)(k:Nat): shx x k=x*2 ^ k:=by
 have key:∀ l:List Tm,lv (l.map fun t=>(t.1,((t.2:Int)+(k:Int)).toNat))=lv l*2 ^ k:=by
  intro l
  induction l with
  | nil=>simp[lv]
  | cons t l ih =>
    obtain⟨s,e⟩:=t
    simp only[List.map_cons,lv,ih,Int.add_mul]
    congr 1
    have:((e:Int)+(k:Int)).toNat=e+k:=by omega
    rw[this]
    cases s <;>simp[tv,Int.pow_add,Int.neg_mul]
 unfold shx shl
 rw[key,jc]
theorem shx_back (h:shOK x y): shx (shx x y) (-y)=x:=by
 have hf:=yP h
 unfold shx
 have:shl (lv (shl x y)) (-y)=form x:=by
  unfold shl at *
  have hf':form (lv ((form x).map fun t=>(t.1,((t.2:Int)+y).toNat)))=(form x).map fun t=>(t.1,((t.2:Int)+y).toNat):=hf
  rw[hf',List.map_map]
  conv=>rhs; rw[← List.map_id (form x)]
  refine List.map_congr_left fun t ht=>?_
  have:=h t.2 (mem_exps ht)
  obtain⟨s,e⟩:=t
  simp only[Function.comp,id,Prod.mk.injEq,true_and]
  dsimp only at this
  omega
 rw[this,jc]
theorem shx_neg {k:Nat}(h:shOK x (-(k:Int))): shx x (-(k:Int))*2 ^ k=x:=by
 have:=shx_back h
 rw[Int.neg_neg,shx_nat] at this
 exact this
end
end Sr
namespace Sr
open Go Go.Proofs Go.RowKit Go.Maps Go.WideMaps
section
structure TakeSt (C:List Nat)(w1:World)(p:Nat)(F:List Nat)(vs:List Int)(gks:List Nat)(m:Nat)(x:Int)(b5 k:Nat)(F':List Nat)(D':WD)(vs':List Int)(plv:Value)(wr:World): Prop where
 wo:WO C wr p F' D' vs' gks (m+k)
 fr:Fr (b5::F) w1 wr
 sub:∀ b∈F',b∈F∨w1.heap.size≤b
 pre:vs <+: vs'
 mem:∀ q∈(Sr.parts x).take k,((q:Nat):Int)∈vs'
 box:wr.heap[b5]? = some (.cells #[plv] 80 (0,0))
 row:IRow wr plv (((Sr.parts x).take k).map fun (q:Nat)=>vs'.idxOf (q:Int))
 own:∀ b,plv.ownBlock=some b→w1.heap.size≤b∧b∉F'
variable {x:Int} {k:Nat} {vs:List Int}
theorem xF {q:Nat}(hk:(Sr.parts x)[k]? = some q): ∀ e∈exps (q:Int),e∈(Sr.parts x).take k:=by
 intro e he
 have hq:IsPart x q:=mem_parts.1 (jM hk)
 have hm:e∈Sr.parts x:=mem_parts.2 (.step hq he)
 obtain⟨i,hi⟩:=List.mem_iff_getElem?.1 hm
 have hlt:e<q:=by have:=qz he; simpa using this
 have hik:i<k:=by
  rcases Nat.lt_or_ge i k with h | h
  ·exact h
  ·exfalso
   obtain⟨hil,hie⟩:=jL hi
   obtain⟨hkl,hke⟩:=jL hk
   rcases Nat.lt_or_eq_of_le h with h | h
   ·have:=List.pairwise_iff_getElem.1 (qR x) k i hkl hil h
    omega
   ·subst h; rw[hie] at hke; omega
 exact List.mem_iff_getElem?.2 ⟨i,by rw[List.getElem?_take_of_lt hik];exact hi⟩
theorem at_places {y:Int}(hy:∀ e∈exps y,e∈(Sr.parts x).take k):
 (∀ t∈atPl (Sr.parts x) y,t.2<(((Sr.parts x).take k).map fun (q:Nat)=>vs.idxOf (q:Int)).length) ∧
 (atPl (Sr.parts x) y).map (fun t=>(t.1,(((Sr.parts x).take k).map fun (q:Nat)=>vs.idxOf (q:Int)).getD t.2 0))=pf vs y:=by
 have key:∀ t∈form y,(Sr.parts x).idxOf t.2<((Sr.parts x).take k).length∧((Sr.parts x).take k)[(Sr.parts x).idxOf t.2]? = some t.2:=by
  intro t ht
  have h1:=hy t.2 (mem_exps ht)
  have h2:(Sr.parts x).idxOf t.2=((Sr.parts x).take k).idxOf t.2:=by
   conv=>lhs; rw[← List.take_append_drop k (Sr.parts x)]
   rw[List.idxOf_append,if_pos h1]
  rw[h2]
  have h3:=List.idxOf_lt_length_of_mem h1
  refine⟨h3,?_⟩
  rw[jG h3];simp
 refine⟨fun t ht=>?_,?_⟩
 ·obtain⟨u,hu,rfl⟩:=List.mem_map.1 ht
  rw[List.length_map];exact (key u hu).1
 ·unfold atPl pf
  rw[List.map_map]
  refine List.map_congr_left fun u hu=>?_
  simp only[Function.comp]
  rw[List.getD_eq_getElem?_getD,List.getElem?_map,(key u hu).2];rfl
theorem take_step {C:List Nat}{w1 wr w2 w3:World}{p:Nat}{F F' F'':List Nat}{D' D'':WD}{vs':List Int}{gks:List Nat}{m b5 q g n1 cap:Nat}{plv:Value}{o:Obj}(S:TakeSt C w1 p F vs gks m x b5 k F' D' vs' plv wr) 
 (hq:(Sr.parts x)[k]? = some q) (hput:Put C wr.drew w2 p F' F'' D'' (putIn vs' (q:Int)) gks (m+k+1) (fun _=>False)) (hb5:b5<w1.heap.size) (hb5F:b5∉F)
 (hI:IRow w3 (.slice (some ⟨g,0,none⟩) n1 cap) ((((Sr.parts x).take k).map fun (q:Nat)=>vs'.idxOf (q:Int))++[(putIn vs' (q:Int)).idxOf (q:Int)])) (hg:(w2.alloc o).grownBy w3 plv.ownBlock) (hat:plv.ownBlock=some g∨g=w2.heap.size+1) :
 TakeSt C w1 p F vs gks m x b5 (k+1) F'' D'' (putIn vs' (q:Int)) (.slice (some ⟨g,0,none⟩) n1 cap) (w3.setCell ⟨b5,0,none⟩ (.slice (some ⟨g,0,none⟩) n1 cap)):=by
 have hsz:=S.fr.size
 have hs2:wr.heap.size≤w2.heap.size:=hput.fr.size
 have hs3:w2.heap.size+1≤w3.heap.size:=by have:=hg.size; simpa using this
 have hb5F':b5∉F':=fun h=>by rcases S.sub b5 h with h | h; exact hb5F h; omega
 have hF'':∀ b∈F'',b∈F'∨wr.heap.size≤b:=fun b hb=>by
  rcases hput.sub b hb with h | h | h
  ·exact .inl h
  ·exact .inr h
  ·exact h.elim
 have hb5F'':b5∉F'':=fun h=>by rcases hF'' b5 h with h | h; exact hb5F' h; omega
 have hown:∀ b,plv.ownBlock=some b→b<wr.heap.size∧b∉F':=fun b e=>⟨jP S.row e,(S.own b e).2⟩
 have hne5:plv.ownBlock≠some b5:=fun e=>by
  obtain⟨c,hc⟩:=jO S.row e
  exact jI hc S.box (by decide) rfl
 have keep:∀ b,b<w2.heap.size→plv.ownBlock≠some b→b≠b5→(w3.setCell ⟨b5,0,none⟩ (.slice (some ⟨g,0,none⟩) n1 cap)).heap[b]? = w2.heap[b]?:=fun b h1 h2 h3 =>
  (jS _ _ _ _ h3).trans ((hg.block b (by simp; omega) (fun e=>h2 e.symm)).trans (jE _ _ h1))
 refine⟨?_,?_,?_,S.pre.trans (zK _ _),?_,?_,?_,?_⟩
 ·have:=hput.wo.kept (W':=w3.setCell ⟨b5,0,none⟩ (.slice (some ⟨g,0,none⟩) n1 cap)) (fun b hb=>keep b (hput.wo.blt b hb) (fun e=>?_) (fun e=>hb5F'' (e▸hb)))
  ·exact this
  ·obtain⟨h1,h2⟩:=hown b e
   rcases hF'' b hb with h | h
   ·exact h2 h
   ·omega
 ·have hos:w3.os=w2.os:=hg.os
  refine⟨hos.trans (hput.fr.os.trans S.fr.os),(show w3.tape=w2.tape from hg.tape).trans (hput.fr.tape.trans S.fr.tape),(show w3.output=w2.output from hg.output).trans (hput.fr.output.trans S.fr.output),by simp; omega,fun b hb hn=>?_⟩
  have hbF':b∉F':=fun h=>by
   rcases S.sub b h with h | h
   ·exact hn (List.mem_cons_of_mem _ h)
   ·omega
  rw[keep b (by omega) (fun e=>by have:=(S.own b e).1; omega) (fun e=>hn (by simp[e])),hput.fr.block b (by show b<wr.heap.size; omega) hbF']
  exact S.fr.block b hb hn
 ·intro b hb
  rcases hF'' b hb with h | h
  ·exact S.sub b h
  ·exact .inr (by omega)
 ·intro r hr
  rw[j8 hq] at hr
  rcases List.mem_append.1 hr with h | h
  ·exact qN (zK _ _) (S.mem r h)
  ·simp at h; subst h; exact qt _ _
 ·have h1:w3.heap[b5]? = some (.cells #[plv] 80 (0,0)):=by
   rw[hg.block b5 (by simp; omega) (fun e=>hne5 e.symm),jE _ _ (by omega),hput.fr.block b5 (by show b5<wr.heap.size; omega) hb5F']
   exact S.box
  exact heap_setCell_same w3 b5 0 _ 80 _ h1
 ·have e:((Sr.parts x).take (k+1)).map (fun (r:Nat)=>(putIn vs' (q:Int)).idxOf (r:Int))=(((Sr.parts x).take k).map fun (r:Nat)=>vs'.idxOf (r:Int))++[(putIn vs' (q:Int)).idxOf (q:Int)]:=by
   rw[j8 hq,List.map_append]
   congr 1
   exact List.map_congr_left fun r hr=>zV (zK _ _) (S.mem r hr)
  rw[e]
  exact jJ hI fun b hb=>jS _ _ _ _ (by
   show b≠b5
   intro e5
   have h5:w3.heap[b5]? = some (.cells #[plv] 80 (0,0)):=by
    rw[hg.block b5 (by simp; omega) (fun e=>hne5 e.symm),jE _ _ (by omega),hput.fr.block b5 (by show b5<wr.heap.size; omega) hb5F']
    exact S.box
   obtain⟨c,hc⟩:=jO hI hb
   exact jI hc h5 (by decide) e5)
 ·intro b hb
  have hb':b=g:=by simpa [Value.ownBlock] using hb.symm
  subst hb'
  rcases hat with h | h
  ·obtain⟨h1,h2⟩:=hown b h
   refine⟨(S.own b h).1,fun hm=>?_⟩
   rcases hF'' b hm with h' | h'
   ·exact h2 h'
   ·omega
  ·refine⟨by omega,fun hm=>?_⟩
   have:=hput.wo.blt b hm
   omega
theorem zn {C:List Nat}{W0 W:World}{p:Nat}{F:List Nat}{D:WD}{gks:List Nat}{m:Nat}(H:Hid (Wt C W0 W p F D vs gks m)){v:Value}(hx:IsN W0 v x)(hm:m+2000+C.length≤2147483648):
 Calls Tryz.prog 60 #[.pointer (some ⟨p,0,none⟩),v] W fun e W'=>∃ (F':List Nat) (D':WD) (vs':List Int),e=.returned (.int .i64 (vs'.idxOf x:Nat))∧Hid (x∈vs')∧Hid (vs <+: vs')∧Hid (Wt C W0 W' p F' D' vs' gks (m+2000))∧Hid (FE F W F' W'):=by
 obtain⟨q,rfl⟩:∃ q,v=.agg #[.pointer q]:=by
  obtain⟨_,⟨_,rfl⟩ | ⟨_,b,_,_,_,rfl,_⟩⟩:=hx
  ·exact⟨_,rfl⟩
  ·exact⟨_,rfl⟩
 have hal:=hx.1
 obtain⟨pv,sv,fl,HR0⟩:=hx.get'
 have HR:Hid (∀ w',Below W0.heap.size W0 w'→Rows w' (.agg #[.pointer q]) x pv sv fl):=HR0
 obtain⟨pa,pc,rfl⟩:∃ pa pc,pv=.slice pa (Sr.parts x).length pc:=by
  obtain⟨_,⟨rfl,h2⟩ | ⟨g,cap,cur,rfl,_⟩⟩:=(HR0 W H.out.low).prow
  ·exact⟨none,0,by rw[h2]⟩
  ·exact⟨_,cap,rfl⟩
 clear HR0 hx
 obtain⟨N,hN⟩:∃ N,N=(Sr.parts x).length:=⟨_,rfl⟩
 have HN:Hid (N=(Sr.parts x).length):=hN
 have hNb:N≤1999:=by have:=hal.2.2.1; omega
 rw[← hN] at HR
 have HAl:Hid (allowed x):=hal
 clear hal hN
 have HP:=fun w' hb=>(HR.out w' hb).parts
 have HSf:=fun w' hb=>(HR.out w' hb).self
 go_enter Tryz.func60,Tryz.ntmps60
 go_wp2_with fail
 refine (HP _ (((H.out.low.alloc H.out.low.size _).alloc (by have:=H.out.low.size; simp; omega) _).alloc (by have:=H.out.low.size; simp; omega) _)).mono ?_
 rintro y w1 ⟨rfl,o1,hw1⟩
 have hz:W.heap.size+4=w1.heap.size:=by rw[hw1];simp
 have HB1:Hid (Below W.heap.size W w1):=by
  show Below _ _ _
  rw[hw1]
  exact ((((Below.refl W.heap.size W).alloc (jR _) _).alloc (by simp) _).alloc (by simp; omega) _).alloc (by simp; omega) _
 have X2:Hid (w1.heap[W.heap.size]? = some (.cells #[.pointer (some ⟨p,0,none⟩)] 107 (0,0))):=by
  show _=_
  rw[hw1,jE _ _ (by simp; omega),jE _ _ (by simp; omega),jE _ _ (by simp),jD]
 have X3:Hid (w1.heap[W.heap.size+1]? = some (.cells #[.pointer q] 26 (0,0))):=by
  show _=_
  rw[hw1,jE _ _ (by simp),jE _ _ (by simp)]
  have:=jD (W.alloc (.cells #[.pointer (some ⟨p,0,none⟩)] 107)) (.cells #[.pointer q] 26)
  rwa [jY] at this
 have X5:Hid (w1.heap[W.heap.size+1+1]? = some (.cells #[.slice none 0 0] 80 (0,0))):=by
  show _=_
  rw[hw1,jE _ _ (by simp)]
  have:=jD ((W.alloc (.cells #[.pointer (some ⟨p,0,none⟩)] 107)).alloc (.cells #[.pointer q] 26)) (.cells #[.slice none 0 0] 80)
  rwa [jY,jY] at this
 have S0:Hid (TakeSt C w1 p F vs gks m x (W.heap.size+1+1) 0 F D vs (.slice none 0 0) w1) :=
  ⟨H.out.wo.below HB1.out,Fr.refl _ _,fun b hb=>.inl hb,List.prefix_refl _,by simp,X5.out,⟨rfl,.inl ⟨rfl,rfl⟩⟩,fun b hb=>by cases hb⟩
 clear HP hw1
 go_wp2_with fail
 go_loopg [13] N (fun g1 vi wr=>∃ (k:Nat) (F':List Nat) (D':WD) (vs':List Int) (plv:Value),vi=.int .i64 k∧k≤N∧N - k≤g1∧Hid (TakeSt C w1 p F vs gks m x (W.heap.size+1+1) k F' D' vs' plv wr))
 case atStart=>exact⟨0,F,D,vs,_,rfl,by omega,by omega,S0⟩
 case round =>
  clear S0
  obtain⟨k,F',D',vs',plv,rfl,hkl,hg,HS⟩:=hrel
  by_cases hk:k<N
  ·have hkz:(k:Int)<(N:Int):=by omega
   have hk0:(0:Int)≤(k:Int):=Int.natCast_nonneg k
   have hkw:IntKind.i64.wrap ((k:Int)+1)=(k:Int)+1:=IntWalk.i64_in _ (by omega)
   have hsz:=HS.out.fr.size
   have hlow1:Below W0.heap.size W0 w1:=qL (F:=[]) H.out.low (by simp) (Fr.of_below HB1.out)
   have hlow:Below W0.heap.size W0 wr:=qL (F:=(W.heap.size+1+1)::F) hlow1 (by have:=H.out.low.size; intro b hb; simp at hb; rcases hb with rfl | hb; omega; exact H.out.hi b hb) HS.out.fr
   have hF5:W.heap.size+1+1∉F:=fun h=>by have:=H.out.wo.blt _ h; omega
   have hF2:W.heap.size∉F:=fun h=>by have:=H.out.wo.blt _ h; omega
   have hR:=HR.out wr hlow
   obtain⟨qq,hq⟩:∃ qq,(Sr.parts x)[k]? = some qq:=⟨_,jG (by rw[← HN.out];exact hk)⟩
   obtain⟨u,hu,hru⟩:=hR.rows k qq hq
   obtain⟨gp,cp,heq,cq⟩:=qS hR.prow hu
   obtain⟨e1,e2,e3⟩:=Value.slice.inj heq
   subst e1
   clear e2 e3 heq
   have hbx:(wr.drew).heap[W.heap.size]? = some (.cells #[.pointer (some ⟨p,0,none⟩)] 107 (0,0)) :=
    (HS.out.fr.block W.heap.size (by omega) (by intro hm; simp at hm; rcases hm with hm | hm; omega; exact hF2 hm)).trans X2.out
   have hpl:=at_places (vs:=vs') (xF hq)
   have hal:=HAl.out.2.1 qq (jM hq)
   obtain⟨ds,hds⟩:∃ ds,ds=((Sr.parts x).take k).map fun (q:Nat)=>vs'.idxOf (q:Int):=⟨_,rfl⟩
   have hrow:IRow wr.drew plv ds:=by rw[hds];exact HS.out.row
   rw[← hds] at hpl
   have hlenb:ds.length+1≤1099511627776:=by rw[hds,List.length_map,List.length_take];omega
   have HDS:Hid (ds=((Sr.parts x).take k).map fun (q:Nat)=>vs'.idxOf (q:Int)):=hds
   clear hds
   have HC:=take1_calls (C:=C) (W:=wr.drew) (p:=p) (F:=F') (D:=D') (vs:=vs') (gks:=gks) (m:=m+k) HS.out.wo.drew (bp:=W.heap.size+1+1) (bw:=W.heap.size) (pv:=plv) (v:=u) (ds:=ds) (l:=atPl (Sr.parts x) (qq:Int)) (qq:Int)
    HS.out.box hbx hrow hru (fun e he=>HS.out.mem e (xF hq e he)) hpl.1 hpl.2 (by omega) (by unfold atPl; rw[List.length_map];omega)
   have c5:wr.cell? ⟨W.heap.size+1+1,0,none⟩=some plv:=by rw[jB HS.out.box];rfl
   have f5:wr.frozen? ⟨W.heap.size+1+1,0,none⟩=false:=jF HS.out.box 0
   have HQ:Hid ((Sr.parts x)[k]? = some qq):=hq
   have HL5:Hid (W.heap.size+1+1<w1.heap.size∧W.heap.size+1+1∉F):=⟨by omega,hF5⟩
   have HRw:Hid (IRow wr.drew plv ds):=hrow
   have hlt5:W.heap.size+1+1<wr.heap.size:=by omega
   have H5n:Hid (plv.ownBlock≠some (W.heap.size+1+1)):=fun e=>by
    obtain⟨c,hc⟩:=jO HRw.out e
    exact jI hc HS.out.box (by decide) rfl
   have H5f:Hid (W.heap.size+1+1∉F'):=fun h=>by rcases HS.out.sub _ h with h | h; exact hF5 h; omega
   clear hrow
   clear hq hu hru hpl hal hR hlow hlow1 hbx hF5 hF2
   go_wp2_with fail
   go_region_law (first
    | (refine step_I1 rfl (.tmp 17) (.tmp 21) rfl plv ds rfl (World.ownsRow.alloc HI.out _) _ _ rfl (jD _ _) hlenb _ rfl ?_; intro g cap w3 I3 G3 A3 L3
       have h5:w3.heap[W.heap.size+1+1]? = some (.cells #[plv] 80 (0,0)):=(G3.block _ (by have:=hput.out.fr.size; simp at this ⊢;omega) (fun e=>H5n.out e.symm)).trans ((jE _ _ (by have:=hput.out.fr.size; simp at this ⊢;omega)).trans ((hput.out.fr.block _ hlt5 H5f.out).trans HS.out.box))
       have c5':w3.cell? ⟨W.heap.size+1+1,0,none⟩=some plv:=by rw[jB h5];rfl
       have f5':w3.frozen? ⟨W.heap.size+1+1,0,none⟩=false:=jF h5 0
       have I3':Hid (IRow w3 (.slice (some ⟨g,0,none⟩) (ds.length+1) cap) (ds++[(putIn vs' (qq:Int)).idxOf (qq:Int)])):=I3
       have A3':Hid (plv.ownBlock=some g∨g=w2.heap.size+1):=by show _∨_; simpa using A3
       have G3':=jH G3
       clear h5 I3 A3 G3)
    | (go_simp; go_at_call 102; refine HC.mono ?_; rintro y w2 ⟨F'',D'',rfl,hput⟩
       have c5w:w2.cell? ⟨W.heap.size+1+1,0,none⟩=some plv:=by rw[jB ((hput.out.fr.block _ hlt5 H5f.out).trans HS.out.box)];rfl
       have n5w:∀ o,(w2.alloc o).cell? ⟨W.heap.size+1+1,0,none⟩=some plv:=fun o=>by rw[jB ((jE _ _ (by have:=hput.out.fr.size; simp at this; omega)).trans ((hput.out.fr.block _ hlt5 H5f.out).trans HS.out.box))];rfl
       have HI:Hid (IRow w2 plv ds):=jJ HRw.out (fun b e=>hput.out.fr.block b (jP HRw.out e) (HS.out.own b e).2)))
   all_goals
    have HT:=jH (take_step HS.out HQ.out hput.out HL5.out.1 HL5.out.2 (by rw[← HDS.out];exact I3'.out) G3'.out A3'.out)
    clear HI I3' A3' G3' hput c5' f5' c5 f5 c5w n5w
    go_wp2_with fail
    go_roundg (N - (k+1))
    case measure=>omega
    case rel=>exact⟨k+1,F'',D'',putIn vs' (qq:Int),_,by go_num,by omega,by omega,HT⟩
  ·have hkz:¬ ((k:Int)<(N:Int)):=by omega
   obtain rfl:k=N:=by omega
   have hsz:=HS.out.fr.size
   have hlow1:Below W0.heap.size W0 w1:=qL (F:=[]) H.out.low (by simp) (Fr.of_below HB1.out)
   have hlow:Below W0.heap.size W0 wr:=qL (F:=(W.heap.size+1+1)::F) hlow1 (by have:=H.out.low.size; intro b hb; simp at hb; rcases hb with rfl | hb; omega; exact H.out.hi b hb) HS.out.fr
   have HF5:Hid (W.heap.size+1+1∉F):=fun h=>by have:=H.out.wo.blt _ h; omega
   have hF2:W.heap.size∉F:=fun h=>by have:=H.out.wo.blt _ h; omega
   have hF3:W.heap.size+1∉F:=fun h=>by have:=H.out.wo.blt _ h; omega
   have hbx:wr.heap[W.heap.size]? = some (.cells #[.pointer (some ⟨p,0,none⟩)] 107 (0,0)) :=
    (HS.out.fr.block W.heap.size (by omega) (by intro hm; simp at hm; rcases hm with hm | hm; omega; exact hF2 hm)).trans X2.out
   have hb3:wr.heap[W.heap.size+1]? = some (.cells #[.pointer q] 26 (0,0)) :=
    (HS.out.fr.block (W.heap.size+1) (by omega) (by intro hm; simp at hm; exact hF3 hm)).trans X3.out
   have c3:wr.cell? ⟨W.heap.size+1,0,none⟩=some (.pointer q):=by rw[jB hb3];rfl
   have hall:∀ e∈exps x,e∈(Sr.parts x).take k:=fun e he=>by
    rw[List.take_of_length_le (by rw[← HN.out];omega)]
    exact mem_parts.2 (.here he)
   have hpl:=at_places (vs:=vs') hall
   have hal:=HAl.out.1
   have hself:=HSf wr hlow
   have hsr:=(HR.out wr hlow).srow
   have HC:=fun (o:Obj)=>take1_calls (C:=C) (W:=wr.alloc o) (p:=p) (F:=F') (D:=D') (vs:=vs') (gks:=gks) (m:=m+k) (HS.out.wo.alloc o) (bp:=W.heap.size+1+1) (bw:=W.heap.size) (pv:=plv) (v:=sv) (ds:=((Sr.parts x).take k).map fun (q:Nat)=>vs'.idxOf (q:Int)) (l:=atPl (Sr.parts x) x) x
    ((jE _ _ (by omega)).trans HS.out.box) ((jE _ _ (by omega)).trans hbx) (World.ownsRow.alloc HS.out.row o) (World.ownsRow.alloc hsr o) (fun e he=>HS.out.mem e (hall e he)) hpl.1 hpl.2 (by omega) (by unfold atPl; rw[List.length_map];omega)
   clear hlow hlow1 hbx hF2 hF3 hb3 hall hpl hal hsr HSf
   go_wp2_with fail
   refine hself.mono ?_
   rintro y w2 ⟨rfl,o2,rfl⟩
   clear hself
   go_wp2_with fail
   refine (HC o2).mono ?_
   rintro y w3 ⟨F'',D'',rfl,hput⟩
   go_wp2_with fail
   go_ret
   have hF'':∀ b∈F'',b∈F∨w1.heap.size≤b:=fun b hb=>by
    rcases hput.out.sub b hb with h | h | h
    ·exact HS.out.sub b h
    ·have:wr.heap.size+1≤b:=by simpa using h
     exact .inr (by omega)
    ·exact h.elim
   have hfr:Fr F W w3:=by
    have h1:=HB1.out
    have hs1:=h1.size
    refine⟨hput.out.fr.os.trans (HS.out.fr.os.trans h1.os),hput.out.fr.tape.trans (HS.out.fr.tape.trans h1.tape),hput.out.fr.output.trans (HS.out.fr.output.trans h1.output),by have:=hput.out.fr.size; simp at this; omega,fun b hb hn=>?_⟩
    rw[hput.out.fr.block b (by simp; omega) (fun h=>by rcases HS.out.sub b h with h | h; exact hn h; omega),jE _ _ (by omega),HS.out.fr.block b (by omega) (by intro hm; simp at hm; rcases hm with hm | hm; omega; exact hn hm)]
    exact h1.block b hb
   refine⟨F'',D'',putIn vs' x,rfl,qt _ _,HS.out.pre.trans (zK _ _),⟨?_,qL H.out.low H.out.hi hfr,fun b hb=>?_⟩,⟨hfr,fun b hb=>?_⟩⟩
   ·exact hput.out.wo.weaken (by have:=hput.out.wo.len; omega) hm
   ·have:=H.out.low.size
    rcases hF'' b hb with h | h
    ·exact H.out.hi b h
    ·omega
   ·rcases hF'' b hb with h | h
    ·exact .inl h
    ·exact .inr (by omega)
end
end Sr
namespace Sr
section
theorem maxl_append (a b:List Nat): maxl (a++b)=max (maxl a) (maxl b):=by
 induction a with
 | nil=>simp[maxl]
 | cons x a ih=>simp only[List.cons_append,maxl,ih];omega
def hts (es:List Nat): Nat:=maxl (es.map fun (e:Nat)=>height (e:Int)+1)
theorem hts_snoc (es:List Nat)(e:Nat): hts (es++[e])=max (hts es) (height (e:Int)+1):=by
 unfold hts; rw[List.map_append,maxl_append];simp[maxl]
theorem zA (x:Int): height x=hts (exps x):=qs x
def PartOr (a e:Nat): Prop:=e=a∨IsPart (a:Int) e
structure Wk (es ps:List Nat)(ok:Bool)(ps':List Nat)(ok':Bool)(r:Nat): Prop where
 pre:ps <+: ps'
 new:∀ e∈ps',e∈ps∨∃ a∈es,PartOr a e
 yes:ok'=true→ok=true∧(∀ e∈es,e∈ps')∧r=hts es
 no:ok=true→ok'=false→(∃ a∈es,∃ e,PartOr a e∧300<(form (e:Int)).length)∨2000≤ps'.length
 le:r≤hts es
structure HInv (vs:List Int)(ps:List Nat)(hh:Nat→Nat)(ok:Bool): Prop where
 nodup:ps.Nodup
 mem:∀ e∈ps,(e:Int)∈vs
 le:∀ e∈ps,hh e≤height (e:Int)
 good:ok=true→∀ e∈ps,hh e=height (e:Int)∧(form (e:Int)).length≤300∧∀ a∈exps (e:Int),a∈ps
theorem Wk.start (ps:List Nat)(ok:Bool): Wk [] ps ok ps ok 0 :=
 ⟨List.prefix_refl _,fun _ h=>.inl h,fun h=>⟨h,by simp,rfl⟩,fun h h'=>(by rw[h] at h'; cases h'),jR _⟩
theorem HInv.start (vs:List Int)(hh:Nat→Nat): HInv vs [] hh true:=⟨by simp,by simp,by simp,by simp⟩
variable {es ps ps1:List Nat} {ok:Bool} {r e:Nat} {vs:List Int}
theorem Wk.known {ok1:Bool}{hh:Nat→Nat}(h:Wk es ps ok ps1 ok1 r)(hi:HInv vs ps1 hh ok1)(he:e∈ps1): Wk (es++[e]) ps ok ps1 ok1 (max r (hh e+1)) where
 pre:=h.pre
 new:=fun a ha=>by
  rcases h.new a ha with q | ⟨b,q,q2⟩
  ·exact .inl q
  ·exact .inr ⟨b,by simp[q],q2⟩
 yes:=fun ho=>by
  obtain⟨q1,q2,q3⟩:=h.yes ho
  refine⟨q1,fun a ha=>?_,?_⟩
  ·rcases List.mem_append.1 ha with ha | ha
   ·exact q2 a ha
   ·simp at ha; exact ha▸he
  ·rw[hts_snoc,q3,(hi.good ho e he).1]
 no:=fun h1 h2=>by
  rcases h.no h1 h2 with ⟨a,q,q2⟩ | q
  ·exact .inl ⟨a,by simp[q],q2⟩
  ·exact .inr q
 le:=by have:=h.le; have:=hi.le e he; rw[hts_snoc];omega
theorem Wk.lost (h:Wk es ps ok ps1 false r): Wk (es++[e]) ps ok ps1 false (max r 1) where
 pre:=h.pre
 new:=fun a ha=>by
  rcases h.new a ha with q | ⟨b,q,q2⟩
  ·exact .inl q
  ·exact .inr ⟨b,by simp[q],q2⟩
 yes:=fun ho=>by cases ho
 no:=fun h1 h2=>by
  rcases h.no h1 h2 with ⟨a,q,q2⟩ | q
  ·exact .inl ⟨a,by simp[q],q2⟩
  ·exact .inr q
 le:=by have:=h.le; rw[hts_snoc];omega
theorem Wk.walked {ps2:List Nat}{ok3:Bool}{q:Nat}(h:Wk es ps ok ps1 true r)(hk:Wk (exps (e:Int)) ps1 (decide ((form (e:Int)).length≤300)&&decide (ps1.length<2000)) ps2 ok3 q):
 Wk (es++[e]) ps ok (ps2++[e]) ok3 (max r (q+1)) where
 pre:=h.pre.trans (hk.pre.trans (List.prefix_append _ _))
 new:=fun a ha=>by
  rcases List.mem_append.1 ha with ha | ha
  ·rcases hk.new a ha with ha | ⟨b,q1,q2⟩
   ·rcases h.new a ha with q1 | ⟨b,q1,q2⟩
    ·exact .inl q1
    ·exact .inr ⟨b,by simp[q1],q2⟩
   ·refine .inr ⟨e,by simp,.inr ?_⟩
    rcases q2 with rfl | q2
    ·exact .here q1
    ·exact IsPart.trans (.here q1) q2
  ·simp at ha; subst ha; exact .inr ⟨a,by simp,.inl rfl⟩
 yes:=fun ho=>by
  obtain⟨q1,q2,q3⟩:=h.yes rfl
  obtain⟨k1,k2,k3⟩:=hk.yes ho
  refine⟨q1,fun a ha=>?_,?_⟩
  ·rcases List.mem_append.1 ha with ha | ha
   ·exact List.mem_append.2 (.inl (hk.pre.subset (q2 a ha)))
   ·exact List.mem_append.2 (.inr ha)
  ·rw[hts_snoc,q3,k3,← zA]
 no:=fun h1 h2=>by
  by_cases hb:(decide ((form (e:Int)).length≤300)&&decide (ps1.length<2000))=true
  ·rcases hk.no hb h2 with ⟨a,q1,b,q2,q3⟩ | q1
   ·refine .inl ⟨e,by simp,b,.inr ?_,q3⟩
    rcases q2 with rfl | q2
    ·exact .here q1
    ·exact IsPart.trans (.here q1) q2
   ·refine .inr ?_; simp; omega
  ·have hb2:¬ ((form (e:Int)).length≤300∧ps1.length<2000):=by simpa using hb
   by_cases hl:(form (e:Int)).length≤300
   ·refine .inr ?_
    have:=hk.pre.length_le
    simp; omega
   ·exact .inl ⟨e,by simp,e,.inl rfl,by omega⟩
 le:=by have:=h.le; have:=hk.le; rw[hts_snoc,zA];omega
def upH (hh:Nat→Nat)(e q:Nat): Nat→Nat:=fun a=>if a=e then q else hh a
theorem HInv.walked {ps2:List Nat}{ok3:Bool}{q:Nat}{hh:Nat→Nat}(hn:e∉ps1)(he:(e:Int)∈vs)(hk:Wk (exps (e:Int)) ps1 (decide ((form (e:Int)).length≤300)&&decide (ps1.length<2000)) ps2 ok3 q)(hi:HInv vs ps2 hh ok3):
 e∉ps2∧HInv vs (ps2++[e]) (upH hh e q) ok3:=by
 have hn2:e∉ps2:=by
  intro h
  rcases hk.new e h with h | ⟨a,h1,h2⟩
  ·exact hn h
  ·have l1:=qz h1
   rcases h2 with h2 | h2
   ·omega
   ·have:=h2.lt; omega
 refine⟨hn2,?_,fun a ha=>?_,fun a ha=>?_,fun ho a ha=>?_⟩
 ·refine List.nodup_append.2 ⟨hi.nodup,by simp,fun a ha b hb=>?_⟩
  obtain rfl:b=e:=by simpa using hb
  rintro rfl; exact hn2 ha
 ·rcases List.mem_append.1 ha with ha | ha
  ·exact hi.mem a ha
  ·simp at ha; exact ha▸he
 ·unfold upH
  split
  ·rename_i h; subst h; have:=hk.le; rw[zA];exact this
  ·rcases List.mem_append.1 ha with ha | ha
   ·exact hi.le a ha
   ·simp at ha; contradiction
 ·unfold upH
  obtain⟨k1,k2,k3⟩:=hk.yes ho
  have hb2:(form (e:Int)).length≤300∧ps1.length<2000:=by simpa using k1
  split
  ·rename_i h; subst h
   exact⟨by rw[zA];exact k3,hb2.1,fun b hb=>List.mem_append.2 (.inl (k2 b hb))⟩
  ·rcases List.mem_append.1 ha with ha | ha
   ·obtain⟨g1,g2,g3⟩:=hi.good ho a ha
    exact⟨g1,g2,fun b hb=>List.mem_append.2 (.inl (g3 b hb))⟩
   ·simp at ha; contradiction
theorem yQ {a b:List Nat}(ha:a.Nodup)(hb:b.Nodup)(h:∀ x,x∈a↔x∈b): a.length=b.length :=
 Nat.le_antisymm (jT a b ha (fun x hx=>(h x).1 hx)) (jT b a hb (fun x hx=>(h x).2 hx))
theorem Wk.parts {vs:List Int}{x:Int}{ps:List Nat}{ok:Bool}{r:Nat}{hh:Nat→Nat}(h:Wk (exps x) [] true ps ok r)(hi:HInv vs ps hh ok)(ho:ok=true): ∀ e,e∈ps↔e∈parts x:=by
 intro e
 rw[mem_parts]
 constructor
 ·intro he
  rcases h.new e he with h | ⟨a,h1,h2⟩
  ·simp at h
  ·rcases h2 with rfl | h2
   ·exact .here h1
   ·exact IsPart.trans (.here h1) h2
 ·intro he
  induction he with
  | here h1=>exact (h.yes ho).2.1 _ h1
  | step _ h1 ih=>exact (hi.good ho _ ih).2.2 _ h1
theorem Wk.allowed {vs:List Int}{x:Int}{ps:List Nat}{ok:Bool}{r:Nat}{hh:Nat→Nat}(hx:(form x).length≤300)(h:Wk (exps x) [] true ps ok r)(hi:HInv vs ps hh ok):
 allowed x↔ok=true∧ps.length+1≤2000∧r≤100:=by
 constructor
 ·rintro⟨a1,a2,a3,a4⟩
  have ho:ok=true:=by
   cases hok:ok with
   | true=>rfl
   | false =>
     exfalso
     rcases h.no rfl hok with ⟨a,h1,e,h2,h3⟩ | h1
     ·have hp:IsPart x e:=by
       rcases h2 with rfl | h2
       ·exact .here h1
       ·exact IsPart.trans (.here h1) h2
      have:=a2 e (mem_parts.2 hp);omega
     ·have:=jT ps (Sr.parts x) hi.nodup (fun e he=>mem_parts.2 (by
       rcases h.new e he with q | ⟨a,h1,h2⟩
       ·simp at q
       ·rcases h2 with rfl | h2
        ·exact .here h1
        ·exact IsPart.trans (.here h1) h2))
      omega
  have hl:=yQ hi.nodup (qE x) (h.parts hi ho)
  exact⟨ho,by omega,by rw[(h.yes ho).2.2,← zA];exact a4⟩
 ·rintro⟨ho,h1,h2⟩
  have hl:=yQ hi.nodup (qE x) (h.parts hi ho)
  refine⟨hx,fun p hp=>(hi.good ho p ((h.parts hi ho p).2 hp)).2.1,by omega,?_⟩
  rw[zA,← (h.yes ho).2.2];exact h2
theorem hts_idx (hv:WV vs): ∀ (i:Nat) (x:Int),vs[i]? = some x→height x≤i:=by
 intro i
 induction i using Nat.strongRecOn with
 | _ i ih =>
   intro x hx
   rw[zA]
   unfold hts
   have key:∀ l:List Nat,(∀ e∈l,e∈exps x)→maxl (l.map fun (e:Nat)=>height (e:Int)+1)≤i:=by
    intro l
    induction l with
    | nil=>intro _; simp[maxl]
    | cons e l ihl =>
      intro hl
      obtain⟨k,hk,hk2⟩:=hv.closed i x hx e (hl e (by simp))
      have h1:=ih k hk _ hk2
      have h2:=ihl fun a ha=>hl a (List.mem_cons_of_mem _ ha)
      simp only[List.map_cons,maxl];omega
   exact key _ fun _ h=>h
theorem height_lt (hv:WV vs)(h:(e:Int)∈vs): height (e:Int)<vs.length:=by
 have:=hts_idx hv _ _ (jU h);have:=zR h; omega
end
end Sr
