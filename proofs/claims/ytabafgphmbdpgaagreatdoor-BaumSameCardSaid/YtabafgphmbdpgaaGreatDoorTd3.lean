/- Texts of this claim, joined: Id, Clone, Rev, NumD, Take, RPlus. -/
import Derived.Test.YtabafgphmbdpgaaGreatDoorTd1
import Derived.Test.YtabafgphmbdpgaaGreatDoorTd2
import Derived.Lib.BufferMore
set_option maxHeartbeats 8000000
set_option maxRecDepth 100000
namespace Sr
open Go Go.Proofs Go.RowKit Go.Maps Go.WideMaps
theorem qA (w:World)(a b:Obj): ((w.alloc a).alloc b).heap[w.heap.size+1]? = some b:=by have:=jD (w.alloc a) b; rwa [jY] at this
theorem u8z (n:Nat): (((UInt8.ofNat n).toNat:Nat):Int)=(n:Int) % 256:=by simp
theorem kb1_cells (s:Bool)(n:Nat)(c:Int)(hc:c=if s then 1 else 0): (#[Value.int .u8 c,.int .u8 ((n:Int) / 16777216 % 256),.int .u8 ((n:Int) / 65536 % 256),.int .u8 ((n:Int) / 256 % 256),.int .u8 ((n:Int) % 256)]).toList=(kb1 (s,n)).map fun b=>.int .u8 (b.toNat:Nat):=by
 simp only[kb1,List.map_cons,List.map_nil,u8z]
 subst hc
 cases s <;>simp
theorem j8 {α:Type}{l:List α}{k:Nat}{x:α}(h:l[k]? = some x): l.take (k+1)=l.take k++[x]:=by
 rw[List.take_add_one,h];rfl
theorem kb_append (a b:List PT): kb (a++b)=kb a++kb b:=by simp[kb]
theorem WO.weaken {C:List Nat}{W:World}{p:Nat}{F:List Nat}{D:WD}{vs:List Int}{gk:List Nat}{m m':Nat}(h:WO C W p F D vs gk m)(hm:vs.length≤m'+gk.length)(hb:m'+C.length≤2147483648): WO C W p F D vs gk m' :=
 { h with len:=hm,bnd:=hb }
structure Put (C:List Nat)(W W':World)(p:Nat)(F F':List Nat)(D':WD)(vs':List Int)(gk':List Nat)(m':Nat)(may:Nat→Prop): Prop where
 wo:WO C W' p F' D' vs' gk' m'
 fr:Fr F W W'
 sub:∀ b∈F',b∈F∨W.heap.size≤b∨may b
theorem id_calls {C:List Nat}{W:World}{p:Nat}{F:List Nat}{D:WD}{vs:List Int}{gks:List Nat}{m:Nat}(H:Hid (WO C W p F D vs gks m))(v:Value)(x:Int)(hx:∀ e∈exps x,(e:Int)∈vs)(hl0:TRow W v (pf vs x))(hm:m+1+C.length≤2147483648):
 Calls Tryz.prog 99 #[.pointer (some ⟨p,0,none⟩),v] W fun e W'=>∃ (F':List Nat) (D':WD),e=.returned (.int .i64 ((putIn vs x).idxOf x:Nat))∧Hid (Put C W W' p F F' D' (putIn vs x) gks (m+1) (fun b=>v.ownBlock=some b)):=by
 have hvl:=H.out.vlen
 have hlen:(pf vs x).length≤4294967296:=by have:=pf_len hvl hx; omega
 have HP:Hid (∀ e∈exps x,(e:Int)∈vs):=hx
 have HM:Hid (m+1+C.length≤2147483648):=hm
 clear hx hm hvl
 obtain⟨l,hlE⟩:∃ l,l=pf vs x:=⟨_,rfl⟩
 rw[← hlE] at hl0 hlen
 have HE:Hid (l=pf vs x):=hlE
 clear hlE
 have Hl:Hid (TRow W v l):=hl0
 have hl:=hl0
 clear hl0
 obtain⟨va,ca,rfl,_,_⟩:=hl.shape
 obtain⟨N,hN⟩:∃ N,N=5*l.length:=⟨_,rfl⟩
 have hC1:5*(l.length:Int)=(N:Int):=by omega
 have hw5:IntKind.i64.wrap (N:Int)=(N:Int):=IntWalk.i64_in _ (by omega)
 have hb4:N≤1099511627776:=by omega
 have HN:Hid (N=5*l.length):=hN
 clear hN
 clear hl
 go_enter Tryz.func99,Tryz.ntmps99
 go_wp2_with (at_make; go_loud (refine make_B rfl _ _ rfl N rfl _ rfl rfl hb4 ?_);intro w1 hown1 hg1)
 have B0:Hid (Below W.heap.size W w1):=(Below.refl W.heap.size W).grown hg1 (jR _) (fun k hk=>by cases hk)
 have K0:Hid (BRow w1 (.slice (some ⟨W.heap.size,0,none⟩) 0 N) []):=hown1
 clear hown1 hg1
 go_loopg [5,17] l.length (fun g1 vx vi wr=>∃ (k:Nat) (vb:Value),vx=vb∧vi=.int .i64 k∧k≤l.length∧l.length - k≤g1∧Hid (BRow wr vb (kb (l.take k)))∧Hid (Below W.heap.size W wr)∧Hid (∀ b,vb.ownBlock=some b→W.heap.size≤b))
 case atStart=>exact⟨0,_,rfl,rfl,by omega,by omega,K0,B0,fun b hb=>by cases hb; exact jR _⟩
 case round =>
  clear B0 K0
  obtain⟨k,vb,rfl,rfl,hkl,hg,HK,HB,HO⟩:=hrel
  by_cases hk:k<l.length
  ·have hkz:(k:Int)<(l.length:Int):=by omega
   have hk0:(0:Int)≤(k:Int):=Int.natCast_nonneg k
   have hkw:IntKind.i64.wrap ((k:Int)+1)=(k:Int)+1:=IntWalk.i64_in _ (by omega)
   obtain⟨_,_,ea,_,sa⟩:=TRow.shape (jK Hl.out HB.out)
   cases ea
   obtain⟨⟨sx,ax⟩,hx⟩:∃ x,l[k]? = some x:=⟨_,jG hk⟩
   obtain⟨ga,rfl,cx0,cx1⟩:=sa k _ hx
   have Hx:Hid _:=hx
   dsimp only at cx0 cx1
   have la0:ga<wr.heap.size:=jg cx0
   have la1:ga≠wr.heap.size:=by omega
   have la2:ga≠wr.heap.size+1:=by omega
   clear sa hx
   have hbl:(kb (l.take k)).length+5≤1099511627776:=by rw[kb_len,List.length_take];omega
   have hsz:=HB.out.size
   cases sx
   ·
    have HK1:Hid (∀ a b,BRow ((wr.alloc a).alloc b) u5 (kb (l.take k))):=fun a b=>World.ownsRow.alloc (World.ownsRow.alloc HK.out a) b
    have HB1:Hid (∀ a b,Below W.heap.size W ((wr.alloc a).alloc b)):=fun a b=>(HB.out.alloc hsz a).alloc (by simp; omega) b
    clear HK HB
    go_wp2_with (at_builtin; go_loud (refine app_B rfl _ _ rfl u5 (kb (l.take k)) rfl (HK1.out _ _) _ 5 (kb1 (false,ax)) rfl rfl _ (kb1_cells false ax _ rfl) (qA _ _ _) hbl ?_);intro v' w3 K3 G3 A3)
    go_roundg (l.length - (k+1))
    case measure=>omega
    case rel =>
     refine⟨k+1,v',rfl,by go_num,by omega,by omega,?_,?_,?_⟩
     ·show BRow _ _ _
      rw[j8 Hx.out,kb_append];exact K3
     ·exact (HB1.out _ _).grown G3 (by simp; omega) (fun b hb=>HO.out b hb)
     ·show ∀ b,_
      intro b hb
      rcases A3 with A3 | A3
      ·exact HO.out b (A3▸hb)
      ·rw[A3] at hb; cases hb; simp; omega
   ·
    have HK1:Hid (∀ a b,BRow ((wr.alloc a).alloc b) u5 (kb (l.take k))):=fun a b=>World.ownsRow.alloc (World.ownsRow.alloc HK.out a) b
    have HB1:Hid (∀ a b,Below W.heap.size W ((wr.alloc a).alloc b)):=fun a b=>(HB.out.alloc hsz a).alloc (by simp; omega) b
    clear HK HB
    go_wp2_with (at_builtin; go_loud (refine app_B rfl _ _ rfl u5 (kb (l.take k)) rfl (HK1.out _ _) _ 5 (kb1 (true,ax)) rfl rfl _ (kb1_cells true ax _ rfl) (qA _ _ _) hbl ?_);intro v' w3 K3 G3 A3)
    go_roundg (l.length - (k+1))
    case measure=>omega
    case rel =>
     refine⟨k+1,v',rfl,by go_num,by omega,by omega,?_,?_,?_⟩
     ·show BRow _ _ _
      rw[j8 Hx.out,kb_append];exact K3
     ·exact (HB1.out _ _).grown G3 (by simp; omega) (fun b hb=>HO.out b hb)
     ·show ∀ b,_
      intro b hb
      rcases A3 with A3 | A3
      ·exact HO.out b (A3▸hb)
      ·rw[A3] at hb; cases hb; simp; omega
  ·have hkz:¬ ((k:Int)<(l.length:Int)):=by omega
   have HX:Hid (WO C wr p F D vs gks m):=H.out.below HB.out
   have HR:Hid (TRow wr (.slice va l.length ca) l):=jK Hl.out HB.out
   have HF:Hid (Fr F W wr):=Fr.of_below HB.out
   have HK2:Hid (BRow wr u5 (kb (pf vs x))):=by
    have:=HK.out
    rw[List.take_of_length_le (by omega),HE.out] at this
    exact this
   have hc1:=HX.out.c1
   have hcv:(Go.convert 40 9 u5).run Tryz.prog wr.drew=.ok (.string ⟨(kb (pf vs x)).toArray⟩) wr.drew:=zh HK2.out fun _ _=>rfl
   clear HK HB hkl hg
   rcases HX.out.lookPlc HP.out with ⟨hn,HL⟩ | ⟨hn,HL⟩
   ·have hlk:=HL wr.drew rfl
    clear HL
    go_wp2_with fail
    go_region_held3 (fun w'=>w'.cell? ⟨p,1,none⟩=some (.map (some D.mp))∧(Go.convert 40 9 u5).run Tryz.prog w'=.ok (.string ⟨(kb (pf vs x)).toArray⟩) w'∧(Instr.lookup 121 (.map (some D.mp)) (.string ⟨(kb (pf vs x)).toArray⟩) true).run Tryz.prog w'=.ok (.tuple #[.int .i64 0,.bool false]) w')
     (exact⟨hc1,hcv,hlk⟩) (fail)
    clear hcv hlk
    obtain⟨g,cap,hfv,hgF,_⟩:=HX.out.formAt
    have hc0:wr.cell? ⟨p,0,none⟩=some (.slice (some ⟨g,0,none⟩) vs.length cap):=by rw[← hfv];exact HX.out.c0
    have HO2:Hid (∀ o,((wr.alloc o).drew).ownsRow 0 111 1 (.slice (some ⟨g,0,none⟩) vs.length cap) vs.length D.fl):=fun o=>by
     rw[← hfv];exact World.ownsRow.alloc HX.out.forms o
    have hvl:vs.length+1≤1099511627776:=by have:=HX.out.vlen; omega
    have hpg:Hid (some p≠(Value.slice (some ⟨g,0,none⟩) vs.length cap).ownBlock):=by
     intro e
     rw[← hfv] at e
     obtain⟨c,hc⟩:=jO HX.out.forms e.symm
     exact jI HX.out.obj hc (by decide) rfl
    go_wp2_with (at_builtin; go_loud (refine app_F1 rfl _ _ rfl (.slice (some ⟨g,0,none⟩) vs.length cap) vs.length D.fl rfl (HO2.out _) wr.heap.size (.slice va l.length ca) rfl rfl (jD _ _) hvl ?_);intro v' w3 O3 G3 N3 A3
                 have hp3:w3.heap[p]? = some (.cells #[D.fv,.map (some D.mp),.map (some D.mg),.map (some D.mo)] 125 (0,0)):=(G3.block p (by have:=HX.out.blt p HX.out.inF.1; simp; omega) hpg.out).trans ((jE wr _ (HX.out.blt p HX.out.inF.1)).trans HX.out.obj)
                 have q0:w3.cell? ⟨p,0,none⟩=some D.fv:=by rw[jB hp3];rfl
                 have f0:=jF hp3 0
                 obtain⟨g3,cap3,rfl,_,_⟩:=O3.form (Nat.succ_pos _))
    obtain⟨W4,hrun,HW4,HF4⟩:=WO.pushed (HX.out.alloc (.cells #[.slice va l.length ca] 111)).drew hn HP.out HM.out (v:=.slice va l.length ca) (fv':=.slice (some ⟨g3,0,none⟩) (vs.length+1) cap3) (W2:=w3)
     (by rw[← HE.out];exact World.ownsRow.alloc HR.out _) O3 (by rw[hfv];exact G3)
    have hc1':(w3.setCell ⟨p,0,none⟩ (.slice (some ⟨g3,0,none⟩) (vs.length+1) cap3)).drew.cell? ⟨p,1,none⟩=some (.map (some D.mp)):=by
     have:=heap_setCell_same w3 p 0 _ 125 (.slice (some ⟨g3,0,none⟩) (vs.length+1) cap3) hp3
     exact (jB (W:=(w3.setCell ⟨p,0,none⟩ (.slice (some ⟨g3,0,none⟩) (vs.length+1) cap3)).drew) this 1).trans rfl
    have hcv':(Go.convert 40 9 u5).run Tryz.prog (w3.setCell ⟨p,0,none⟩ (.slice (some ⟨g3,0,none⟩) (vs.length+1) cap3)).drew=.ok (.string ⟨(kb (pf vs x)).toArray⟩) (w3.setCell ⟨p,0,none⟩ (.slice (some ⟨g3,0,none⟩) (vs.length+1) cap3)).drew:=zh HK2.out fun b hb=>by
     obtain⟨c,hc⟩:=jO HK2.out hb
     obtain⟨c2,hc2⟩:=jO HX.out.forms (b:=g) (by rw[hfv];rfl)
     have hlt:=jP HK2.out hb
     refine (jS _ _ _ _ (jI hc HX.out.obj (by decide))).trans ((G3.block b (by simp; omega) ?_).trans (jE wr _ hlt))
     intro e
     have e':b=g:=by simpa [Value.ownBlock] using e
     exact jI hc hc2 (by decide) e'
    have HQ:Hid (Put C W W4 p F ([g3]++(Value.slice va l.length ca).ownBlock.toList++F) ⟨.slice (some ⟨g3,0,none⟩) (vs.length+1) cap3,D.mp,D.mg,D.mo,D.fl++[.slice va l.length ca]⟩ (putIn vs x) gks (m+1) (fun b=>(Value.slice va l.length ca).ownBlock=some b)):=by
     have e1:putIn vs x=vs++[x]:=by unfold putIn; rw[if_neg hn]
     rw[e1]
     refine⟨HW4,Fr.pre (HF.out.alloc _).drew HF4,fun b hb=>?_⟩
     simp only[List.mem_append,List.mem_singleton,Option.mem_toList] at hb
     rcases hb with (rfl | hb) | hb
     ·rcases A3 with A3 | A3
      ·have:b=g:=by simpa [Value.ownBlock] using A3
       exact .inl (this▸hgF)
      ·have h1:b=wr.heap.size+1:=by simpa [Value.ownBlock] using A3
       have h2:=HF.out.size
       exact .inr (.inl (by omega))
     ·exact .inr (.inr hb)
     ·exact .inl hb
    have HI:Hid ((putIn vs x).idxOf x=vs.length):=by
     have e1:putIn vs x=vs++[x]:=by unfold putIn; rw[if_neg hn]
     have:=HQ.out.wo.wv
     rw[e1] at this ⊢
     exact this.idx_get (by simp)
    clear HW4 HF4 hc1 hc0 q0 f0 hp3 O3 G3 N3 A3
    go_region
    go_wp2_with fail
    go_ret
    exact⟨_,_,congrArg (fun (n:Nat)=>Ending.returned (.int .i64 (n:Nat))) HI.out.symm,HQ⟩
   ·have hlk:=HL wr.drew rfl
    clear HL
    go_wp2_with fail
    go_region_held3 (fun w'=>w'.cell? ⟨p,1,none⟩=some (.map (some D.mp))∧(Go.convert 40 9 u5).run Tryz.prog w'=.ok (.string ⟨(kb (pf vs x)).toArray⟩) w'∧(Instr.lookup 121 (.map (some D.mp)) (.string ⟨(kb (pf vs x)).toArray⟩) true).run Tryz.prog w'=.ok (.tuple #[.int .i64 (vs.idxOf x:Nat),.bool true]) w')
     (exact⟨hc1,hcv,hlk⟩) (fail)
    go_wp2_with fail
    go_ret
    have e1:putIn vs x=vs:=by unfold putIn; rw[if_pos hn]
    refine⟨F,D,by rw[e1];rfl,?_⟩
    rw[e1]
    have hb:=HM.out
    have hle:=HX.out.len
    exact⟨HX.out.drew.weaken (by omega) hb,HF.out.drew,fun b hb=>.inl hb⟩
theorem zX {W:World}{v:Value}{l:List PT}(hl:TRow W v l)(hlen:l.length≤1000000000000):
 Calls Tryz.prog 98 #[v] W fun e W'=>∃ v',e=.returned v'∧Hid (TRow W' v' l)∧Hid (Below W.heap.size W W')∧Hid (∀ b,v'.ownBlock=some b→W.heap.size≤b):=by
 have Hl:Hid (TRow W v l):=hl
 obtain⟨h1,⟨rfl,h2⟩ | ⟨g,cap,cur,rfl,h3,h4,h5,h6,h7,h8⟩⟩:=hl
 ·have Hn:Hid (l=[]):=List.length_eq_zero_iff.1 h2
  have he:∀ w:World,(binOp .eql 111 (.slice none 0 0) (.slice none 0 0)).run Tryz.prog w=.ok (.bool true) w:=fun w=>Lib.run_eql_slice_nil_nil w _ _ un111
  clear h1 h2
  go_enter Tryz.func98,Tryz.ntmps98
  go_wp2_with fail
  go_ret
  exact⟨_,rfl,Hl,Below.refl _ _,fun b hb=>by cases hb⟩
 ·have HN:Hid (∀ j u,(tcells l)[j]? = some u→(W.alloc (.cells #[] 154)).cell? ((⟨g,0,none⟩:Addr).add j)=some u):=fun j u hu =>
   (World.ownsRow.alloc Hl.out _).cells (g:=g) rfl j u hu
  have HM:Hid (TRow (W.alloc (.cells #[] 154)) (.slice (some ⟨W.heap.size,0,none⟩) 0 0) []):=World.ownsRow_made W #[] 0 (Nat.zero_le _) (Nat.zero_le _) rfl
  have hb:([]:List PT).length+l.length≤1099511627776:=by simp; omega
  have he:∀ w:World,(binOp .eql 111 (.slice (some ⟨g,0,none⟩) l.length cap) (.slice none 0 0)).run Tryz.prog w=.ok (.bool false) w:=fun w=>Lib.run_eql_slice_some_nil w _ _ _ un111
  clear h1 h3 h4 h5 h6 h7 h8
  go_enter Tryz.func98,Tryz.ntmps98
  go_wp2_with (at_builtin; go_loud (refine app_T rfl _ _ rfl (.slice (some ⟨W.heap.size,0,none⟩) 0 0) [] rfl HM.out ⟨g,0,none⟩ cap l.length l rfl rfl HN.out hb ?_);intro v' w3 K3 G3 N3 A3)
  go_ret
  refine⟨v',rfl,K3,?_,?_⟩
  ·exact ((Below.refl _ _).alloc (jR _) _).grown G3 (by simp) (fun b hb=>by cases hb; exact jR _)
  ·intro b hb
   rcases A3 with A3 | A3
   ·rw[A3] at hb; cases hb; exact jR _
   ·rw[A3] at hb; cases hb; simp
section
theorem qT:∀ (l:List PT) (i:Nat) (t:PT),tcells (l.set i t)=((tcells l).set (i*2) (.bool t.1)).set (i*2+1) (.int .i64 (t.2:Nat))
 | [],_,_=>rfl
 | s::l,0,t=>rfl
 | s::l,i+1,t=>by
   have e:tcells (s::l)=.bool s.1::.int .i64 (s.2:Nat)::tcells l:=rfl
   have e2:tcells ((s::l).set (i+1) t)=.bool s.1::.int .i64 (s.2:Nat)::tcells (l.set i t):=rfl
   rw[e,e2,qT l i t,show (i+1)*2=i*2+1+1 by omega]
   rfl
variable {W:World}
theorem setT {g n cap i:Nat}{l:List PT}(t:PT)(h:W.ownsRow 0 154 2 (.slice (some ⟨g,0,none⟩) n cap) n (tcells l)):
 ((W.setCell ⟨g,i*2,none⟩ (.bool t.1)).setCell ⟨g,i*2+1,none⟩ (.int .i64 (t.2:Nat))).ownsRow 0 154 2 (.slice (some ⟨g,0,none⟩) n cap) n (tcells (l.set i t)):=by
 obtain⟨h1,⟨h2,_⟩ | ⟨g',cap',cur,hv,_,h4,h5,h6,h7,h8⟩⟩:=h
 ·cases h2
 ·cases hv
  have k1:=heap_setCell_same W g (i*2) cur 154 (.bool t.1) h4
  have k2:=heap_setCell_same _ g (i*2+1) _ 154 (.int .i64 (t.2:Nat)) k1
  refine⟨?_,.inr ⟨g,cap,_,rfl,Nat.zero_le _,k2,h5,h6,by simp[h7],?_⟩⟩
  ·rw[qT];simp[h1]
  ·rw[qT,Array.toList_setIfInBounds,Array.toList_setIfInBounds,List.take_set,List.take_set,h8]
theorem yC {W':World}{row:Option Nat}{g o:Nat}(v:Value)(h:W.grownBy W' row)(hr:row=some g): W.grownBy (W'.setCell ⟨g,o,none⟩ v) row :=
 ⟨h.os,h.tape,h.output,by simpa using h.size,fun k hk hn=>(jS _ _ _ _ (by rintro rfl; exact hn hr.symm)).trans (h.block k hk hn)⟩
theorem grown_drew {W':World}{row:Option Nat}(h:W.grownBy W' row): W.grownBy W'.drew row:=⟨h.os,h.tape,h.output,h.size,h.block⟩
theorem reverse_calls {v:Value}{l:List PT}(hl:TRow W v l)(hlen:l.length≤1000000000000):
 Calls Tryz.prog 100 #[v] W fun e W'=>e=.returned (.tuple #[])∧Hid (TRow W' v l.reverse)∧Hid (W.grownBy W' v.ownBlock):=by
 have Hl:Hid (TRow W v l):=hl
 obtain⟨va,ca,rfl,_,_⟩:=hl.shape
 clear hl
 have hw1:IntKind.i64.wrap ((l.length:Int) - 1)=(l.length:Int) - 1:=IntWalk.i64_in _ (by omega)
 go_enter Tryz.func100,Tryz.ntmps100
 go_wp2_with fail
 go_loopg [2,3] (l.length) (fun g1 vi vj wr=>∃ (k:Nat) (z:Int) (lk:List PT),vi=.int .i64 k∧vj=.int .i64 z∧z+k+1≤l.length∧l.length≤z+k+1∧(k:Int)≤z+1∧l.length - k≤g1∧Hid (wr.ownsRow 0 154 2 (.slice va l.length ca) l.length (tcells lk))∧Hid (lk.length=l.length)∧Hid (W.grownBy wr (Value.slice va l.length ca).ownBlock) ∧
  Hid (∀ i,i<l.length→lk[i]? = if i<k∨l.length≤i+k then l[l.length - 1 - i]? else l[i]?))
 case atStart=>exact⟨0,(l.length:Int) - 1,l,rfl,rfl,by omega,by omega,by omega,by omega,Hl,rfl,World.grownBy.refl _ _,fun i hi=>by show _=_; rw[if_neg (by omega)]⟩
 case round =>
  obtain⟨k,z,lk,rfl,rfl,hz1,hz2,hkz,hg,HT,HLn,HG,HE⟩:=hrel
  by_cases hk:(k:Int)<z
  ·obtain⟨j,rfl⟩:∃ j:Nat,z=j:=⟨z.toNat,by omega⟩
   have hj1:(j:Int)<(l.length:Int):=by omega
   have hk1:(k:Int)<(l.length:Int):=by omega
   have hj0:(0:Int)≤(j:Int):=by omega
   have hk0:(0:Int)≤(k:Int):=by omega
   obtain⟨h1,⟨h2,h3⟩ | ⟨g,cap,cur,hv,_,h4,h5,h6,h7,h8⟩⟩:=HT.out
   ·omega
   ·cases hv
    have hT:=HT.out
    obtain⟨tk,htk⟩:∃ t,lk[k]? = some t:=⟨_,jG (by have:=HLn.out; omega)⟩
    obtain⟨tj,htj⟩:∃ t,lk[j]? = some t:=⟨_,jG (by have:=HLn.out; omega)⟩
    have hLn:=HLn.out
    obtain⟨e0,e1⟩:=qG htk
    obtain⟨d0,d1⟩:=qG htj
    rw[← h8,List.getElem?_take_of_lt (by omega),Array.getElem?_toList,← jB h4] at e0 e1 d0 d1
    have f0:=jF h4 (k*2)
    have f1:=jF h4 (k*2+1)
    have f2:=jF h4 (j*2)
    have f3:=jF h4 (j*2+1)
    have n1:k*2≠j*2:=by omega
    have n2:k*2≠j*2+1:=by omega
    have n3:k*2+1≠j*2:=by omega
    have n4:k*2+1≠j*2+1:=by omega
    have n5:j*2≠k*2:=by omega
    have n6:j*2≠k*2+1:=by omega
    have n7:j*2+1≠k*2:=by omega
    have n8:j*2+1≠k*2+1:=by omega
    clear h1 h4 h5 h6 h7 h8
    go_wp2_with fail
    go_region
    go_wp2_with fail
    go_roundg (l.length - (k+1))
    case measure=>omega
    case rel =>
     refine⟨k+1,(j:Int) - 1,(lk.set k tj).set j tk,by go_num,rfl,by omega,by omega,by omega,jR _,setT tk (setT tj hT),?_,?_,?_⟩
     ·show _=_; simpa using hLn
     ·exact grown_drew (yC (g:=g) _ (yC (g:=g) _ (yC (g:=g) _ (yC (g:=g) _ HG.out rfl) rfl) rfl) rfl)
     ·intro i hi
      have hk':=HE.out k (by omega)
      have hj':=HE.out j (by omega)
      rw[htk,if_neg (by omega)] at hk'
      rw[htj,if_neg (by omega)] at hj'
      by_cases ij:i=j
      ·subst ij
       rw[List.getElem?_set_self (by simp; omega),if_pos (by omega),hk']
       congr 1; omega
      ·rw[List.getElem?_set_ne (Ne.symm ij)]
       by_cases ik:i=k
       ·subst ik
        rw[List.getElem?_set_self (by omega),if_pos (by omega),hj']
        congr 1; omega
       ·rw[List.getElem?_set_ne (Ne.symm ik),HE.out i hi]
        by_cases hc:i<k∨l.length≤i+k
        ·rw[if_pos hc,if_pos (by omega)]
        ·rw[if_neg hc,if_neg (by omega)]
  ·go_wp2_with fail
   go_end0
   refine⟨rfl,?_,HG⟩
   have e:lk=l.reverse:=by
    refine List.ext_getElem? fun i=>?_
    by_cases hi:i<l.length
    ·rw[HE.out i hi,List.getElem?_reverse hi]
     split
     ·rfl
     ·congr 1; omega
    ·rw[List.getElem?_eq_none (by have:=HLn.out; omega),List.getElem?_eq_none (by simp; omega)]
   have:=HT.out
   rw[e] at this
   show Sr.TRow _ _ _
   unfold TRow
   rw[List.length_reverse]
   exact this
end
section
variable {v pv sv:Value} {w:World} {b:Nat} {fl:List Value}
theorem qS {W:World}{base e n:Nat}{xs:List Value}(h:W.ownsRow base e 1 v n xs){k:Nat}{x:Value}(hk:xs[k]? = some x): ∃ g cap,v=.slice (some ⟨g,0,none⟩) n cap∧W.cell? ⟨g,k,none⟩=some x:=by
 have hlt:=(jL hk).1
 obtain⟨h1,⟨_,h2⟩ | ⟨g,cap,cur,h2,_,h4,h5,h6,h7,h8⟩⟩:=h
 ·omega
 ·refine⟨g,cap,h2,?_⟩
  rw[jB h4,← Array.getElem?_toList,← hk,← h8,List.getElem?_take_of_lt (by omega)]
structure NB (w:World)(b:Nat)(pv sv:Value)(fl:List Value)(x:Int): Prop where
 obj:w.heap[b]? = some (.cells #[pv,sv] 158 (0,0))
 parts:w.ownsRow 0 111 1 pv (Sr.parts x).length fl
 rows:∀ (i p:Nat),(Sr.parts x)[i]? = some p→∃ u,fl[i]? = some u∧TRow w u (atPl (Sr.parts x) (p:Int))
 self:TRow w sv (atPl (Sr.parts x) x)
def IsN (w:World)(v:Value)(x:Int): Prop:=allowed x∧((x=0∧v=.agg #[.pointer none])∨(x≠0∧∃ b pv sv fl,v=.agg #[.pointer (some ⟨b,0,none⟩)]∧NB w b pv sv fl x))
theorem NB.below {w':World}{x:Int}(h:NB w b pv sv fl x)(hb:Below w.heap.size w w'): NB w' b pv sv fl x where
 obj:=(hb.block b (jA h.obj).1).trans h.obj
 parts:=jK h.parts hb
 rows:=fun i p hi=>by obtain⟨u,h1,h2⟩:=h.rows i p hi; exact⟨u,h1,jK h2 hb⟩
 self:=jK h.self hb
theorem IsN.below {w w':World}{v:Value}{x:Int}(h:IsN w v x)(hb:Below w.heap.size w w'): IsN w' v x:=by
 obtain⟨h0,h1 | ⟨h1,b,pv,sv,fl,h2,h3⟩⟩:=h
 ·exact⟨h0,.inl h1⟩
 ·exact⟨h0,.inr ⟨h1,b,pv,sv,fl,h2,h3.below hb⟩⟩
theorem self_none (w:World): Calls Tryz.prog 63 #[.agg #[.pointer none]] w fun e w'=>e=.returned (.slice none 0 0)∧∃ o,w'=w.alloc o:=by
 go_enter Tryz.func63,Tryz.ntmps63
 go_wp2_with fail
 go_ret
 exact⟨rfl,_,rfl⟩
theorem self_some {x:Int}(h:NB w b pv sv fl x): Calls Tryz.prog 63 #[.agg #[.pointer (some ⟨b,0,none⟩)]] w fun e w'=>e=.returned sv∧∃ o,w'=w.alloc o:=by
 have c1:w.cell? ⟨b,1,none⟩=some sv:=by rw[jB h.obj];rfl
 have hb:b<w.heap.size:=(jA h.obj).1
 have hb2:b≠w.heap.size:=by omega
 obtain⟨a,c,rfl,_,_⟩:=h.self.shape
 clear h
 go_enter Tryz.func63,Tryz.ntmps63
 go_wp2_with fail
 go_ret
 exact⟨rfl,_,rfl⟩
theorem parts_none (w:World): Calls Tryz.prog 103 #[.agg #[.pointer none]] w fun e w'=>e=.returned (.slice none 0 0)∧∃ o,w'=w.alloc o:=by
 go_enter Tryz.func103,Tryz.ntmps103
 go_wp2_with fail
 go_ret
 exact⟨rfl,_,rfl⟩
theorem parts_some {x:Int}(h:NB w b pv sv fl x): Calls Tryz.prog 103 #[.agg #[.pointer (some ⟨b,0,none⟩)]] w fun e w'=>e=.returned pv∧∃ o,w'=w.alloc o:=by
 have c1:w.cell? ⟨b,0,none⟩=some pv:=by rw[jB h.obj];rfl
 have hb:b<w.heap.size:=(jA h.obj).1
 have hb2:b≠w.heap.size:=by omega
 obtain⟨a,c,rfl⟩:∃ a c,pv=.slice a (Sr.parts x).length c:=by
  obtain⟨_,⟨rfl,h2⟩ | ⟨g,cap,cur,rfl,_⟩⟩:=h.parts
  ·exact⟨none,0,by rw[h2]⟩
  ·exact⟨_,cap,rfl⟩
 clear h
 go_enter Tryz.func103,Tryz.ntmps103
 go_wp2_with fail
 go_ret
 exact⟨rfl,_,rfl⟩
structure Rows (w:World)(v:Value)(x:Int)(pv sv:Value)(fl:List Value): Prop where
 self:Calls Tryz.prog 63 #[v] w fun e w'=>e=.returned sv∧∃ o,w'=w.alloc o
 parts:Calls Tryz.prog 103 #[v] w fun e w'=>e=.returned pv∧∃ o,w'=w.alloc o
 prow:w.ownsRow 0 111 1 pv (Sr.parts x).length fl
 rows:∀ (i p:Nat),(Sr.parts x)[i]? = some p→∃ u,fl[i]? = some u∧TRow w u (atPl (Sr.parts x) (p:Int))
 srow:TRow w sv (atPl (Sr.parts x) x)
theorem yy:Sr.parts 0=[]:=by
 cases h:Sr.parts 0 with
 | nil=>rfl
 | cons p l =>
   exfalso
   have hp:IsPart 0 p:=mem_parts.1 (by rw[h];simp)
   have:∀ {x:Int} {p:Nat},IsPart x p→x=0→False:=fun {x p} hh=>by
    induction hh with
    | here he=>intro e; subst e; simp[exps,j5] at he
    | step _ _ ih=>exact ih
   exact this hp rfl
theorem IsN.get {x:Int}(h:IsN w v x): ∃ pv sv fl,Rows w v x pv sv fl:=by
 obtain⟨_,⟨rfl,rfl⟩ | ⟨_,b,pv,sv,fl,rfl,h2⟩⟩:=h
 ·refine⟨.slice none 0 0,.slice none 0 0,[],self_none w,parts_none w,?_,?_,?_⟩
  ·rw[yy];exact⟨rfl,.inl ⟨rfl,rfl⟩⟩
  ·intro i p hi; rw[yy] at hi; simp at hi
  ·have:atPl (Sr.parts 0) 0=[]:=by simp[atPl,j5]
   rw[this];exact⟨rfl,.inl ⟨rfl,rfl⟩⟩
 ·exact⟨pv,sv,fl,self_some h2,parts_some h2,h2.parts,h2.rows,h2.self⟩
end
theorem setP {W:World}{g n cap i:Nat}{l:List PT}{t:PT}(q:Nat)(hi:l[i]? = some t)(h:W.ownsRow 0 154 2 (.slice (some ⟨g,0,none⟩) n cap) n (tcells l)):
 (W.setCell ⟨g,i*2+1,none⟩ (.int .i64 (q:Nat))).ownsRow 0 154 2 (.slice (some ⟨g,0,none⟩) n cap) n (tcells (l.set i (t.1,q))):=by
 obtain⟨h1,⟨h2,_⟩ | ⟨g',cap',cur,hv,_,h4,h5,h6,h7,h8⟩⟩:=h
 ·cases h2
 ·cases hv
  have k2:=heap_setCell_same W g (i*2+1) _ 154 (.int .i64 (q:Nat)) h4
  obtain⟨e0,_⟩:=qG hi
  have hs:(tcells l).set (i*2) (.bool t.1)=tcells l:=by
   refine List.ext_getElem? fun j=>?_
   by_cases hj:j=i*2
   ·subst hj
    rw[List.getElem?_set_self (jL e0).1,e0]
   ·rw[List.getElem?_set_ne (Ne.symm hj)]
  refine⟨?_,.inr ⟨g,cap,_,rfl,Nat.zero_le _,k2,h5,h6,by simp[h7],?_⟩⟩
  ·rw[qT];simp[h1]
  ·rw[qT,Array.toList_setIfInBounds,List.take_set,h8,hs]
theorem take1_calls {C:List Nat}{W:World}{p:Nat}{F:List Nat}{D:WD}{vs:List Int}{gks:List Nat}{m:Nat}(H:Hid (WO C W p F D vs gks m)){bp bw:Nat}{pv v:Value}{ds:List Nat}{l:List PT}(x:Int) 
 (h1:W.heap[bp]? = some (.cells #[pv] 80 (0,0))) (h2:W.heap[bw]? = some (.cells #[.pointer (some ⟨p,0,none⟩)] 107 (0,0))) (hp:IRow W pv ds) (hl:TRow W v l) (hx:∀ e∈exps x,(e:Int)∈vs)
 (hd:∀ t∈l,t.2<ds.length) (he:l.map (fun t=>(t.1,ds.getD t.2 0))=pf vs x) (hm:m+1+C.length≤2147483648) (hlen:l.length≤1000000) :
 Calls Tryz.prog 102 #[v,.pointer (some ⟨bp,0,none⟩),.pointer (some ⟨bw,0,none⟩)] W fun e W'=>∃ (F':List Nat) (D':WD),e=.returned (.int .i64 ((putIn vs x).idxOf x:Nat))∧Hid (Put C W W' p F F' D' (putIn vs x) gks (m+1) (fun _=>False)):=by
 have HCl:=zX hl (by omega)
 have HP:Hid (IRow W pv ds):=hp
 have H1:Hid (W.heap[bp]? = some (.cells #[pv] 80 (0,0))):=h1
 have H2:Hid (W.heap[bw]? = some (.cells #[.pointer (some ⟨p,0,none⟩)] 107 (0,0))):=h2
 have HD:Hid (∀ t∈l,t.2<ds.length):=hd
 clear h1 h2 hp hd
 go_enter Tryz.func102,Tryz.ntmps102
 go_wp2_with fail
 refine HCl.mono ?_
 rintro y w1 ⟨v1,rfl,hr1,hb1,ho1⟩
 clear HCl
 obtain⟨a1,c1,rfl,_,_⟩:=hr1.out.shape
 have K0:Hid (w1.ownsRow 0 154 2 (.slice a1 l.length c1) l.length (tcells ((l.take 0).map (fun t=>(t.1,ds.getD t.2 0))++l.drop 0))):=hr1.out
 have HO:Hid (∀ b,(Value.slice a1 l.length c1).ownBlock=some b→W.heap.size≤b):=ho1
 clear hr1 ho1
 go_wp2_with fail
 go_loopg [10] l.length (fun g1 vi wr=>∃ k:Nat,vi=.int .i64 k∧k≤l.length∧l.length - k≤g1∧Hid (wr.ownsRow 0 154 2 (.slice a1 l.length c1) l.length (tcells ((l.take k).map (fun t=>(t.1,ds.getD t.2 0))++l.drop k)))∧Hid (Below W.heap.size W wr))
 case atStart=>exact⟨0,rfl,by omega,by omega,K0,hb1⟩
 case round =>
  clear K0 hb1
  obtain⟨k,rfl,hkl,hg,HK,HB⟩:=hrel
  by_cases hk:k<l.length
  ·have hkz:(k:Int)<(l.length:Int):=by omega
   have hk0:(0:Int)≤(k:Int):=Int.natCast_nonneg k
   have hkw:IntKind.i64.wrap ((k:Int)+1)=(k:Int)+1:=IntWalk.i64_in _ (by omega)
   obtain⟨t,ht⟩:∃ t,l[k]? = some t:=⟨_,jG hk⟩
   have htd:=HD.out t (jM ht)
   have hlk:((l.take k).map (fun t=>(t.1,ds.getD t.2 0))++l.drop k)[k]? = some t:=by
    have e2:((l.take k).map (fun t=>(t.1,ds.getD t.2 0))).length=k:=by rw[List.length_map,List.length_take];omega
    rw[List.getElem?_append_right (by omega),e2,Nat.sub_self,List.getElem?_drop,Nat.add_zero,ht]
   obtain⟨q,hq⟩:∃ q,ds[t.2]? = some q:=⟨_,jG htd⟩
   obtain⟨gp,cp,rfl,cq⟩:=qS (k:=t.2) (x:=.int .i64 (q:Nat)) (jK HP.out HB.out) (by rw[List.getElem?_map,hq];rfl)
   have hnx:Hid ((l.take (k+1)).map (fun t=>(t.1,ds.getD t.2 0))++l.drop (k+1)=((l.take k).map (fun t=>(t.1,ds.getD t.2 0))++l.drop k).set k (t.1,q)):=by
    show _=_
    have e1:l.drop k=t::l.drop (k+1):=zy ht
    have e2:((l.take k).map (fun t=>(t.1,ds.getD t.2 0))).length=k:=by rw[List.length_map,List.length_take];omega
    rw[j8 ht,e1,List.map_append,List.append_assoc,List.set_append_right _ _ (by omega),e2,Nat.sub_self]
    simp[hq]
   obtain⟨hh1,⟨hh2,hh3⟩ | ⟨g,cap,cur,hv,_,h4,h5,h6,h7,h8⟩⟩:=HK.out
   ·omega
   ·cases hv
    obtain⟨_,d1⟩:=qG hlk
    rw[← h8,List.getElem?_take_of_lt (by omega),Array.getElem?_toList,← jB h4] at d1
    have f1:=jF h4 (k*2+1)
    have cb:wr.cell? ⟨bp,0,none⟩=some (.slice (some ⟨gp,0,none⟩) ds.length cp):=by
     have hb:bp<W.heap.size:=(jA H1.out).1
     rw[jB ((HB.out.block bp hb).trans H1.out)];rfl
    have t0:(0:Int)≤(t.2:Int):=Int.natCast_nonneg _
    have t1:(t.2:Int)<(ds.length:Int):=by omega
    have HS:Hid _:=setP q hlk HK.out
    have HB2:Hid (Below W.heap.size W (wr.setCell ⟨g,k*2+1,none⟩ (.int .i64 (q:Nat))).drew):=⟨HB.out.os,HB.out.tape,HB.out.output,by have:=HB.out.size; simpa using this,fun b hb=>(jS _ _ _ _ (show b≠g by have:=HO.out g rfl; omega)).trans (HB.out.block b hb)⟩
    clear hh1 h4 h5 h6 h7 h8 hq ht hlk
    go_wp2_with fail
    go_region
    go_wp2_with fail
    go_roundg (l.length - (k+1))
    case measure=>omega
    case rel=>exact⟨k+1,by go_num,by omega,by omega,by show World.ownsRow _ _ _ _ _ _ _; rw[hnx.out];exact HS.out,HB2⟩
  ·have hkz:¬ ((k:Int)<(l.length:Int)):=by omega
   have HR:Hid (TRow wr (.slice a1 l.length c1) (pf vs x)):=by
    have h:=HK.out
    rw[List.take_of_length_le (by omega),List.drop_eq_nil_of_le (by omega),List.append_nil,he] at h
    have hlp:(pf vs x).length=l.length:=by rw[← he,List.length_map]
    show TRow _ _ _
    unfold TRow; rw[hlp];exact h
   have cw:wr.cell? ⟨bw,0,none⟩=some (.pointer (some ⟨p,0,none⟩)):=by
    have hb:bw<W.heap.size:=(jA H2.out).1
    rw[jB ((HB.out.block bw hb).trans H2.out)];rfl
   have HW:Hid (WO C wr p F D vs gks m):=H.out.below HB.out
   have HI:=fun w h hr=>id_calls (C:=C) (W:=w) (p:=p) (F:=F) (D:=D) (vs:=vs) (gks:=gks) (m:=m) h (.slice a1 l.length c1) x hx hr hm
   go_wp2_with fail
   refine (HI _ HW HR.out).mono ?_
   rintro y w9 ⟨F',D',rfl,hput⟩
   go_wp2_with fail
   go_ret
   refine⟨F',D',rfl,hput.out.wo,Fr.pre (Fr.of_below HB.out) hput.out.fr,fun b hb=>?_⟩
   rcases hput.out.sub b hb with q | q | q
   ·exact .inl q
   ·exact .inr (.inl (Nat.le_trans HB.out.size q))
   ·exact .inr (.inl (HO.out b q))
end Sr
namespace Sr
theorem qX (s:Bool)(e:Nat): tv (!s,e) = -tv (s,e):=by cases s <;>simp[tv]
theorem j6 (s:Bool)(e:Nat): tv (s,e+1)=2*tv (s,e):=by cases s <;>simp[tv,jZ] <;>omega
theorem tv_abs (s:Bool)(e:Nat): tv (s,e)=2 ^ e∨tv (s,e) = -(2 ^ e):=by cases s <;>simp[tv]
theorem form_del {x:Int}{a b:List Tm}{u:Tm}(h:form x=a++u::b): form (x - tv u)=a++b:=by
 refine zS ?_ ?_
 ·have:=jb x; rw[h] at this
  exact List.Pairwise.sublist (List.Sublist.append_left (List.sublist_cons_self u b) a) this
 ·have:=jc x; rw[h,qI,lv] at this; rw[qI];omega
theorem form_flip {x:Int}{a b:List Tm}{s:Bool}{e:Nat}(h:form x=a++(s,e)::b): form (x - 2*tv (s,e))=a++(!s,e)::b:=by
 refine zS ?_ ?_
 ·have hn:=jb x; rw[h] at hn
  unfold Naf at hn ⊢
  rw[List.pairwise_append,List.pairwise_cons] at hn ⊢
  obtain⟨h1,⟨h2,h3⟩,h4⟩:=hn
  refine⟨h1,⟨h2,h3⟩,fun p hp q hq=>?_⟩
  rcases List.mem_cons.1 hq with rfl | hq
  ·exact h4 p hp (s,e) (by simp)
  ·exact h4 p hp q (List.mem_cons_of_mem _ hq)
 ·have:=jc x; rw[h,qI,lv] at this; rw[qI,lv,qX];omega
theorem form_ins {x:Int}{a b:List Tm}{s:Bool}{e:Nat}(h:form x=a++b)(ha:∀ u∈a,e+1<u.2)(hb:∀ u∈b,u.2+1<e): form (x+tv (s,e))=a++(s,e)::b:=by
 refine zS ?_ ?_
 ·have hn:=jb x; rw[h] at hn
  unfold Naf at hn ⊢
  rw[List.pairwise_append] at hn
  rw[List.pairwise_append,List.pairwise_cons]
  obtain⟨h1,h2,h4⟩:=hn
  refine⟨h1,⟨fun u hu=>hb u hu,h2⟩,fun p hp q hq=>?_⟩
  rcases List.mem_cons.1 hq with rfl | hq
  ·exact ha p hp
  ·exact h4 p hp q hq
 ·have:=jc x; rw[h,qI] at this; rw[qI,lv];omega
theorem form_top4 {x:Int}{m:Nat}(h1:3*x<4*2 ^ m)(h2:-(4*2 ^ m)<3*x): ∀ t∈form x,t.2≤m:=by
 intro t ht
 have hn:=jb x
 have hv:=jc x
 cases hf:form x with
 | nil=>rw[hf] at ht; simp at ht
 | cons u l =>
   rw[hf] at ht hn hv
   have hle:t.2≤u.2:=by
    rcases List.mem_cons.1 ht with rfl | h
    ·exact jR _
    ·have:=(List.pairwise_cons.1 hn).1 t h; omega
   obtain⟨s,e⟩:=u
   rcases Nat.lt_or_ge m e with hlt | hge
   ·exfalso
    have hp:=jk m
    have hm:=q7 (show m+1≤e by omega)
    rw[jZ] at hm
    cases s
    ·have:=zs hn; rw[hv] at this; omega
    ·have:=zt hn; rw[hv] at this; omega
   ·simp at hle; omega
theorem form_cut (x:Int)(e:Nat): ∃ hi lo:List Tm,form x=hi++lo∧(∀ u∈hi,e<u.2)∧(∀ u∈lo,u.2≤e):=by
 have key:∀ l:List Tm,Naf l→∃ hi lo:List Tm,l=hi++lo∧(∀ u∈hi,e<u.2)∧(∀ u∈lo,u.2≤e):=by
  intro l
  induction l with
  | nil=>intro _; exact⟨[],[],rfl,by simp,by simp⟩
  | cons t l ih =>
    intro hn
    obtain⟨h1,h2⟩:=List.pairwise_cons.1 hn
    by_cases ht:e<t.2
    ·obtain⟨hi,lo,rfl,k1,k2⟩:=ih h2
     exact⟨t::hi,lo,rfl,fun u hu=>by rcases List.mem_cons.1 hu with rfl | hu; exact ht; exact k1 u hu,k2⟩
    ·exact⟨[],t::l,rfl,by simp,fun u hu=>by rcases List.mem_cons.1 hu with rfl | hu; omega; have:=h1 u hu; omega⟩
 exact key _ (jb x)
theorem zi {x:Int}{s:Bool}{e:Nat}(h:(s,e)∈form x): ∃ a b,form x=a++(s,e)::b∧(∀ u∈a,e+1<u.2)∧(∀ u∈b,u.2+1<e):=by
 obtain⟨a,b,hab⟩:=List.append_of_mem h
 have hn:=jb x
 rw[hab] at hn
 obtain⟨h1,h2,h3⟩:=List.pairwise_append.1 hn
 exact⟨a,b,hab,fun u hu=>h3 u hu (s,e) (by simp),(List.pairwise_cons.1 h2).1⟩
theorem exps_mem {x:Int}{e:Nat}(h:e∈exps x): (true,e)∈form x∨(false,e)∈form x:=by
 obtain⟨⟨s,e'⟩,ht,rfl⟩:=List.mem_map.1 h
 cases s
 ·exact .inr ht
 ·exact .inl ht
theorem exps_mem' {x:Int}{e:Nat}(s:Bool)(h:e∈exps x): (s,e)∈form x∨(!s,e)∈form x:=by
 rcases exps_mem h with h | h <;>cases s <;>simp[h]
theorem mem_sign {x:Int}{s s':Bool}{e:Nat}(h:(s,e)∈form x)(h':(s',e)∈form x): s=s':=by
 obtain⟨a,b,hab,h1,h2⟩:=zi h
 rw[hab] at h'
 rcases List.mem_append.1 h' with h' | h'
 ·have:=h1 _ h'; simp at this; omega
 ·rcases List.mem_cons.1 h' with h' | h'
  ·simpa using h'.symm
  ·have:=h2 _ h'; simp at this; omega
theorem q8 {x:Int}{l:List Tm}(h:form x=l): exps x=l.map (·.2):=by unfold exps; rw[h]
theorem qK {x:Int}{s:Bool}{e:Nat}(h:(s,e)∈form x): ∀ j,j∈exps (x - tv (s,e))↔j∈exps x∧j≠e:=by
 obtain⟨a,b,hab,h1,h2⟩:=zi h
 intro j
 rw[q8 (form_del hab),q8 hab]
 simp only[List.map_append,List.map_cons,List.mem_append,List.mem_cons,List.mem_map]
 constructor
 ·rintro (⟨u,hu,rfl⟩ | ⟨u,hu,rfl⟩)
  ·exact⟨.inl ⟨u,hu,rfl⟩,by have:=h1 u hu; omega⟩
  ·exact⟨.inr (.inr ⟨u,hu,rfl⟩),by have:=h2 u hu; omega⟩
 ·rintro⟨h | h | h,hne⟩
  ·exact .inl h
  ·exact absurd h hne
  ·exact .inr h
theorem zL {x:Int}{s:Bool}{e:Nat}(h:(s,e)∈form x): exps (x - 2*tv (s,e))=exps x:=by
 obtain⟨a,b,hab,h1,h2⟩:=zi h
 rw[q8 (form_flip hab),q8 hab];simp
theorem len_del {x:Int}{s:Bool}{e:Nat}(h:(s,e)∈form x): (form (x - tv (s,e))).length+1=(form x).length:=by
 obtain⟨a,b,hab,h1,h2⟩:=zi h
 rw[form_del hab,hab];simp; omega
theorem filt_le {p q:Nat→Bool}(h:∀ u,p u=true→q u=true): ∀ l:List Nat,(l.filter p).length≤(l.filter q).length
 | []=>jR _
 | a::l=>by
   have:=filt_le h l
   by_cases hp:p a=true
   ·simp[hp,h a hp,this]
   ·by_cases hq:q a=true
    ·simp[hp,hq];omega
    ·simp[hp,hq,this]
def ups (x:Int)(e:Nat): Nat:=((exps x).filter (fun u=>decide (e≤u))).length
def below1 (x:Int)(e:Nat): Nat:=if 0<e∧(e - 1)∈exps x then 1 else 0
theorem qF (x:Int)(e:Nat): below1 x e≤1:=by unfold below1; split <;>omega
theorem yY {x:Int}{s:Bool}{d e e':Nat}(h:(s,d)∈form x)(h1:e≤e')(h2:e≤d): ups (x - tv (s,d)) e'+1≤ups x e:=by
 obtain⟨a,b,hab,_,_⟩:=zi h
 unfold ups
 rw[q8 (form_del hab),q8 hab]
 have hle:∀ l:List Nat,(l.filter (fun u=>decide (e'≤u))).length≤(l.filter (fun u=>decide (e≤u))).length:=filt_le (fun u hu=>by simp at hu ⊢;omega)
 have ha:=hle (a.map (·.2))
 have hb:=hle (b.map (·.2))
 simp only[List.map_append,List.map_cons,List.filter_append,List.length_append,List.filter_cons]
 rw[if_pos (by simpa using h2)]
 exact Nat.succ_le_succ (Nat.add_le_add ha hb)
theorem ups_mono {x y:Int}{e e':Nat}(h:exps y=exps x)(h1:e≤e'): ups y e'≤ups x e:=by
 unfold ups; rw[h]
 exact filt_le (fun u hu=>by simp at hu ⊢;omega) _
theorem ups_len (x:Int)(e:Nat): ups x e≤(form x).length:=by unfold ups; rw[← js];exact List.length_filter_le _ _
theorem carry_split {x:Int}{s:Bool}{e:Nat}(h:(s,e+1)∈form x): ∃ hi lo:List Tm,form x=hi++(s,e+1)::lo∧(∀ u∈hi,e+2<u.2)∧(∀ u∈lo,u.2<e) ∧
 form (x - tv (s,e+1) - tv (s,e))=hi++form (lv lo - tv (s,e))∧(∀ u∈form (lv lo - tv (s,e)),u.2≤e+1):=by
 obtain⟨hi,lo,hab,h1,h2⟩:=zi h
 have hn:=jb x
 rw[hab] at hn
 obtain⟨n1,n2,n3⟩:=List.pairwise_append.1 hn
 have n4:=(List.pairwise_cons.1 n2).2
 have hlo:∀ u∈lo,u.2<e:=fun u hu=>by have:=h2 u hu; omega
 have hbd:=yg lo n4 e hlo
 have hp:=jk e
 have htop:∀ u∈form (lv lo - tv (s,e)),u.2≤e+1:=by
  refine yi ?_ ?_ <;>rw[jZ] <;>rcases tv_abs s e with h | h <;>omega
 refine⟨hi,lo,hab,fun u hu=>by have:=h1 u hu; omega,hlo,?_,htop⟩
 refine zS ?_ ?_
 ·refine List.pairwise_append.2 ⟨n1,jb _,fun a ha b hb=>?_⟩
  have:=h1 a ha; have:=htop b hb; omega
 ·rw[qI,jc]
  have:=jc x; rw[hab,qI,lv] at this; omega
theorem ups_carry {x:Int}{s:Bool}{e:Nat}(h:(s,e+1)∈form x): ups (x - tv (s,e+1) - tv (s,e)) (e+2)+1≤ups x e:=by
 obtain⟨hi,lo,hab,h1,h2,h3,h4⟩:=carry_split h
 unfold ups
 rw[q8 h3,q8 hab]
 simp only[List.map_append,List.map_cons,List.filter_append,List.length_append,List.filter_cons]
 rw[if_pos (by simp)]
 have e1:((form (lv lo - tv (s,e))).map (·.2)).filter (fun u=>decide (e+2≤u))=[]:=by
  refine List.filter_eq_nil_iff.2 (fun u hu=>?_)
  obtain⟨t,ht,rfl⟩:=List.mem_map.1 hu
  have:=h4 t ht
  simp; omega
 have e2:((hi.map (·.2)).filter (fun u=>decide (e+2≤u))).length≤((hi.map (·.2)).filter (fun u=>decide (e≤u))).length :=
  filt_le (fun u hu=>by simp at hu ⊢;omega) _
 rw[e1]
 simp only[List.length_cons,List.length_nil];omega
theorem plus_ind {P:Int→Bool→Nat→Prop} 
 (eqo:∀ x s e,(!s,e)∈form x→P x s e)
 (eqs:∀ x s e,(s,e)∈form x→P (x - tv (s,e)) s (e+1)→P x s e)
 (ho:∀ x s e,e∉exps x→(!s,e+1)∈form x→P (x - tv (!s,e+1)) (!s) e→P x s e)
 (hs:∀ x s e,e∉exps x→(s,e+1)∈form x→P (x - tv (s,e+1)) (!s) e→P (x - tv (s,e+1) - tv (s,e)) s (e+2)→P x s e)
 (lo:∀ x s e,e+1∉exps x→e+2∉exps x→(!s,e)∈form x→P x s (e+1))
 (ls:∀ x s e,e+1∉exps x→e+2∉exps x→(s,e)∈form x→P (x - 2*tv (s,e)) s (e+2)→P x s (e+1))
 (ins:∀ x s e,e∉exps x→e+1∉exps x→(∀ d,d+1=e→d∉exps x)→P x s e):∀ x s e,P x s e:=by
 have key:∀ n x s e,2*ups x e+below1 x e≤n→P x s e:=by
  intro n
  induction n using Nat.strongRecOn with
  | ind n ih =>
    intro x s e hn
    have call:∀ y t d,2*ups y d+below1 y d<2*ups x e+below1 x e→P y t d:=fun y t d h=>ih _ (by omega) y t d (jR _)
    by_cases he:e∈exps x
    ·rcases exps_mem' s he with h | h
     ·refine eqs x s e h (call _ _ _ ?_)
      have:=yY (e:=e) (e':=e+1) h (by omega) (by omega)
      have:=qF (x - tv (s,e)) (e+1)
      omega
     ·exact eqo x s e h
    ·by_cases h1:e+1∈exps x
     ·rcases exps_mem' s h1 with h | h
      ·refine hs x s e he h (call _ _ _ ?_) (call _ _ _ ?_)
       ·have:=yY (e:=e) (e':=e) h (by omega) (by omega)
        have:=qF (x - tv (s,e+1)) e
        omega
       ·have:=ups_carry h
        have:=qF (x - tv (s,e+1) - tv (s,e)) (e+2)
        omega
      ·refine ho x s e he h (call _ _ _ ?_)
       have:=yY (e:=e) (e':=e) h (by omega) (by omega)
       have:=qF (x - tv (!s,e+1)) e
       omega
     ·by_cases h0:∃ d,d+1=e∧d∈exps x
      ·obtain⟨d,rfl,hd⟩:=h0
       rcases exps_mem' s hd with h | h
       ·refine ls x s d he h1 h (call _ _ _ ?_)
        have hex:=zL h
        have:=ups_mono (e:=d+1) (e':=d+2) hex (by omega)
        have e0:below1 (x - 2*tv (s,d)) (d+2)=0:=by unfold below1; rw[hex];rw[if_neg];rintro⟨_,h⟩;exact he (by simpa using h)
        have e1:below1 x (d+1)=1:=by unfold below1; rw[if_pos];exact⟨by omega,by simpa using hd⟩
        omega
       ·exact lo x s d he h1 h
      ·exact ins x s e he h1 (fun d hd h=>h0 ⟨d,hd,h⟩)
 exact fun x s e=>key _ x s e (jR _)
theorem plus_exps:∀ x s e,∀ j∈exps (x+tv (s,e)),j∈exps x∨e≤j:=by
 refine plus_ind ?_ ?_ ?_ ?_ ?_ ?_ ?_
 ·intro x s e h j hj
  have:=(qK h j).1 (by rw[qX];rwa [show x - -tv (s,e)=x+tv (s,e) by omega])
  exact .inl this.1
 ·intro x s e h ih j hj
  rcases ih j (by rw[j6];rwa [show x - tv (s,e)+2*tv (s,e)=x+tv (s,e) by omega]) with h1 | h1
  ·exact .inl ((qK h j).1 h1).1
  ·exact .inr (by omega)
 ·intro x s e _ h ih j hj
  rcases ih j (by rw[j6,qX];rwa [show x - 2*-tv (s,e)+-tv (s,e)=x+tv (s,e) by omega]) with h1 | h1
  ·exact .inl ((qK h j).1 h1).1
  ·exact .inr (by omega)
 ·intro x s e _ h ih1 ih2 j hj
  rcases ih2 j (by rw[show e+2=e+1+1 from rfl,j6 s (e+1),j6];rwa [show x - 2*tv (s,e) - tv (s,e)+2*(2*tv (s,e))=x+tv (s,e) by omega]) with h1 | h1
  ·rcases ih1 j (by rw[qX];rwa [show x - tv (s,e+1)+-tv (s,e)=x - tv (s,e+1) - tv (s,e) by omega]) with h2 | h2
   ·exact .inl ((qK h j).1 h2).1
   ·exact .inr h2
  ·exact .inr (by omega)
 ·intro x s e _ _ h j hj
  have:=zL h
  rw[qX,show x - 2*-tv (s,e)=x+tv (s,e+1) by rw[j6];omega] at this
  exact .inl (this▸hj)
 ·intro x s e _ _ h ih j hj
  rcases ih j (by rw[show e+2=e+1+1 from rfl,j6 s (e+1),j6];rw[j6] at hj; rwa [show x - 2*tv (s,e)+2*(2*tv (s,e))=x+2*tv (s,e) by omega]) with h1 | h1
  ·exact .inl (zL h▸h1)
  ·exact .inr (by omega)
 ·intro x s e h0 h1 h2 j hj
  obtain⟨hi,lo,hab,k1,k2⟩:=form_cut x e
  have k1':∀ u∈hi,e+1<u.2:=fun u hu=>by
   have:=k1 u hu
   have:u.2≠e+1:=fun h=>h1 (h▸mem_exps (hab▸List.mem_append.2 (.inl hu)))
   omega
  have k2':∀ u∈lo,u.2+1<e:=fun u hu=>by
   have:=k2 u hu
   have h3:u.2∈exps x:=mem_exps (hab▸List.mem_append.2 (.inr hu))
   have:u.2≠e:=fun h=>h0 (h▸h3)
   have:u.2+1≠e:=fun h=>h2 _ h h3
   omega
  rw[q8 (form_ins hab k1' k2')] at hj
  rw[q8 hab]
  simp only[List.map_append,List.map_cons,List.mem_append,List.mem_cons] at hj ⊢
  rcases hj with h | h | h
  ·exact .inl (.inl h)
  ·exact .inr (by omega)
  ·exact .inl (.inr h)
theorem plus_len:∀ x s e,(form (x+tv (s,e))).length≤(form x).length+1:=by
 refine plus_ind ?_ ?_ ?_ ?_ ?_ ?_ ?_
 ·intro x s e h
  have:=len_del h
  rw[qX,show x - -tv (s,e)=x+tv (s,e) by omega] at this
  omega
 ·intro x s e h ih
  rw[j6,show x - tv (s,e)+2*tv (s,e)=x+tv (s,e) by omega] at ih
  have:=len_del h; omega
 ·intro x s e _ h ih
  have:=len_del h
  rw[j6,qX,show x - 2*-tv (s,e)+-tv (s,e)=x+tv (s,e) by omega] at ih
  rw[j6,qX] at this
  omega
 ·intro x s e _ h ih1 ih2
  have:=len_del h
  rw[qX,show x - tv (s,e+1)+-tv (s,e)=x - tv (s,e+1) - tv (s,e) by omega] at ih1
  rw[show e+2=e+1+1 from rfl,j6 s (e+1),show x - tv (s,e+1) - tv (s,e)+2*tv (s,e+1)=x+tv (s,e) by rw[j6];omega] at ih2
  omega
 ·intro x s e _ _ h
  have:=zL h
  rw[qX,show x - 2*-tv (s,e)=x+tv (s,e+1) by rw[j6];omega] at this
  rw[← js,← js,this];omega
 ·intro x s e _ _ h ih
  have e1:(form (x - 2*tv (s,e))).length=(form x).length:=by rw[← js,zL h,js]
  rw[e1,show e+2=e+1+1 from rfl,j6 s (e+1),j6,show x - 2*tv (s,e)+2*(2*tv (s,e))=x+2*tv (s,e) by omega] at ih
  rw[j6];exact ih
 ·intro x s e h0 h1 h2
  obtain⟨hi,lo,hab,k1,k2⟩:=form_cut x e
  have k1':∀ u∈hi,e+1<u.2:=fun u hu=>by
   have:=k1 u hu
   have:u.2≠e+1:=fun h=>h1 (h▸mem_exps (hab▸List.mem_append.2 (.inl hu)))
   omega
  have k2':∀ u∈lo,u.2+1<e:=fun u hu=>by
   have:=k2 u hu
   have h3:u.2∈exps x:=mem_exps (hab▸List.mem_append.2 (.inr hu))
   have:u.2≠e:=fun h=>h0 (h▸h3)
   have:u.2+1≠e:=fun h=>h2 _ h h3
   omega
  rw[form_ins hab k1' k2',hab];simp; omega
theorem sum_len (x y:Int): (form (x+y)).length≤(form x).length+(form y).length:=by
 have key:∀ (l:List Tm) (x:Int),(form (x+lv l)).length≤(form x).length+l.length:=by
  intro l
  induction l with
  | nil=>intro x; simp[lv]
  | cons t l ih =>
    intro x
    obtain⟨s,e⟩:=t
    have h1:=ih (x+tv (s,e))
    have h2:=plus_len x s e
    simp only[lv,List.length_cons]
    rw[show x+(tv (s,e)+lv l)=x+tv (s,e)+lv l by omega]
    omega
 have:=key (form y) x
 rwa [jc] at this
inductive Ask:Int→Bool→Nat→Nat→Prop
 | hi {x s e u}:u∈exps x→e<u→Ask x s e e
 | lo {x s e d}:e∉exps x→d∈exps x→d<e→Ask x s e d
 | eq {x s e}:(s,e)∈form x→Ask x s e e
 | eqr {x s e j}:(s,e)∈form x→Ask (x - tv (s,e)) s (e+1) j→Ask x s e j
 | h {x s e}:e∉exps x→e+1∈exps x→Ask x s e (e+1)
 | ho {x s e j}:e∉exps x→(!s,e+1)∈form x→Ask (x - tv (!s,e+1)) (!s) e j→Ask x s e j
 | hs1 {x s e j}:e∉exps x→(s,e+1)∈form x→Ask (x - tv (s,e+1)) (!s) e j→Ask x s e j
 | hs2 {x s e j}:e∉exps x→(s,e+1)∈form x→Ask (x - tv (s,e+1) - tv (s,e)) s (e+2) j→Ask x s e j
 | ls {x s e}:e+1∉exps x→e+2∉exps x→(s,e)∈form x→Ask x s (e+1) (e+1)
 | lsr {x s e j}:e+1∉exps x→e+2∉exps x→(s,e)∈form x→Ask (x - 2*tv (s,e)) s (e+2) j→Ask x s (e+1) j
theorem carry_exps {x:Int}{s:Bool}{e:Nat}(h:(s,e+1)∈form x){j:Nat}(hj:j∈exps (x - tv (s,e+1) - tv (s,e))): j∈exps x∨j=e∨j=e+1:=by
 obtain⟨hi,lo,hab,h1,h2,h3,h4⟩:=carry_split h
 have h5:=plus_exps (x - tv (s,e+1)) (!s) e j (by rw[qX,show x - tv (s,e+1)+-tv (s,e)=x - tv (s,e+1) - tv (s,e) by omega];exact hj)
 rcases h5 with h5 | h5
 ·exact .inl ((qK h j).1 h5).1
 ·rw[q8 h3,List.map_append,List.mem_append] at hj
  rcases hj with hj | hj
  ·left; rw[q8 hab,List.map_append];exact List.mem_append.2 (.inl hj)
  ·obtain⟨t,ht,rfl⟩:=List.mem_map.1 hj
   have:=h4 t ht
   right; omega
theorem Ask.bound {x:Int}{s:Bool}{e j:Nat}(h:Ask x s e j): (j<e∧j∈exps x)∨(e≤j∧j≤e+3*ups x e+below1 x e+1):=by
 induction h with
 | hi=>right; omega
 | lo h0 h1 h2=>exact .inl ⟨h2,h1⟩
 | eq=>right; omega
 | @eqr x s e j h hr ih =>
   have k1:=yY (e:=e) (e':=e+1) h (by omega) (by omega)
   have k2:=qF (x - tv (s,e)) (e+1)
   rcases ih with ⟨h1,h2⟩ | h1
   ·have:=(qK h j).1 h2
    exact .inl ⟨by omega,this.1⟩
   ·right; omega
 | h=>right; omega
 | @ho x s e j h0 h hr ih =>
   have k1:=yY (e:=e) (e':=e) h (by omega) (by omega)
   have k2:=qF (x - tv (!s,e+1)) e
   rcases ih with ⟨h1,h2⟩ | h1
   ·exact .inl ⟨h1,((qK h j).1 h2).1⟩
   ·right; omega
 | @hs1 x s e j h0 h hr ih =>
   have k1:=yY (e:=e) (e':=e) h (by omega) (by omega)
   have k2:=qF (x - tv (s,e+1)) e
   rcases ih with ⟨h1,h2⟩ | h1
   ·exact .inl ⟨h1,((qK h j).1 h2).1⟩
   ·right; omega
 | @hs2 x s e j h0 h hr ih =>
   have k1:=ups_carry h
   have k2:=qF (x - tv (s,e+1) - tv (s,e)) (e+2)
   rcases ih with ⟨h1,h2⟩ | h1
   ·rcases carry_exps h h2 with h3 | h3 | h3
    ·rcases Nat.lt_or_ge j e with h4 | h4
     ·exact .inl ⟨h4,h3⟩
     ·right; omega
    ·right; omega
    ·right; omega
   ·right; omega
 | ls=>right; omega
 | @lsr x s e j h0 h1 h hr ih =>
   have hex:=zL h
   have k1:=ups_mono (e:=e+1) (e':=e+2) hex (by omega)
   have e0:below1 (x - 2*tv (s,e)) (e+2)=0:=by unfold below1; rw[hex,if_neg];rintro⟨_,h⟩;exact h0 (by simpa using h)
   have e1:below1 x (e+1)=1:=by unfold below1; rw[if_pos];exact⟨by omega,by simpa using mem_exps h⟩
   rw[hex] at ih
   rcases ih with ⟨h1,h2⟩ | h1
   ·rcases Nat.lt_or_ge j (e+1) with h4 | h4
    ·exact .inl ⟨h4,h2⟩
    ·right; omega
   ·right; omega
theorem Ask.top {x:Int}{s:Bool}{e j:Nat}(h:Ask x s e j): (∀ d,d+1=e→d∉exps x)→∃ u∈exps x,j≤u:=by
 induction h with
 | hi h1 h2=>exact fun _=>⟨_,h1,by omega⟩
 | lo _ h1 _=>exact fun _=>⟨_,h1,by omega⟩
 | eq h=>exact fun _=>⟨_,mem_exps h,by simp⟩
 | @eqr x s e j h hr ih =>
   intro hd
   obtain⟨u,h1,h2⟩:=ih (fun d hd' h'=>by
    have:=(qK h d).1 h'; omega)
   exact⟨u,((qK h u).1 h1).1,h2⟩
 | h _ h1=>exact fun _=>⟨_,h1,by omega⟩
 | @ho x s e j h0 h hr ih =>
   intro hd
   obtain⟨u,h1,h2⟩:=ih (fun d hd' h'=>hd d hd' ((qK h d).1 h').1)
   exact⟨u,((qK h u).1 h1).1,h2⟩
 | @hs1 x s e j h0 h hr ih =>
   intro hd
   obtain⟨u,h1,h2⟩:=ih (fun d hd' h'=>hd d hd' ((qK h d).1 h').1)
   exact⟨u,((qK h u).1 h1).1,h2⟩
 | @hs2 x s e j h0 h hr ih =>
   intro hd
   obtain⟨u,h1,h2⟩:=ih (fun d hd' h'=>by
    obtain rfl:d=e+1:=by omega
    obtain⟨hi,lo,hab,k1,k2,k3,k4⟩:=carry_split h
    rw[q8 k3,List.map_append,List.mem_append] at h'
    rcases h' with h' | h'
    ·obtain⟨t,ht,e1⟩:=List.mem_map.1 h'
     have:=k1 t ht; omega
    ·obtain⟨t,ht,e1⟩:=List.mem_map.1 h'
     have hn:=jb x
     rw[hab] at hn
     have n4:=(List.pairwise_cons.1 (List.pairwise_append.1 hn).2.1).2
     rcases Nat.eq_zero_or_pos e with he | he
     ·subst he
      have:lo=[]:=List.eq_nil_iff_forall_not_mem.2 (fun t ht=>by have:=k2 t ht; omega)
      subst this
      have hf:form (lv [] - tv (s,0))=[(!s,0)]:=zS (by simp[Naf]) (by simp[lv,qX])
      rw[hf] at ht
      simp at ht; subst ht; simp at e1
     ·obtain⟨q,rfl⟩:∃ q,e=q+1:=⟨e - 1,by omega⟩
      have hb:=yg lo n4 q (fun t ht=>by
       have:=k2 t ht
       have:t.2≠q:=fun h'=>hd q rfl (h'▸mem_exps (hab▸List.mem_append.2 (.inr (List.mem_cons_of_mem _ ht))))
       omega)
      have hp:=jk q
      have:=form_top4 (x:=lv lo - tv (s,q+1)) (m:=q+1) (by rw[j6,jZ];rcases tv_abs s q with h | h <;>omega) (by rw[j6,jZ];rcases tv_abs s q with h | h <;>omega) t ht
      omega)
   rcases carry_exps h h1 with h3 | h3 | h3
   ·exact⟨u,h3,h2⟩
   ·exact⟨e+1,mem_exps h,by omega⟩
   ·exact⟨e+1,mem_exps h,by omega⟩
 | ls _ _ h=>exact fun hd=>absurd (mem_exps h) (hd _ rfl)
 | lsr _ _ h=>exact fun hd=>absurd (mem_exps h) (hd _ rfl)
end Sr
