/- Texts of this claim, joined: SumW. -/
import Derived.Test.YtabafgphmbdpgaaGreatDoorTe1
import Derived.Test.YtabafgphmbdpgaaGreatDoorTe11
set_option maxHeartbeats 8000000
set_option maxRecDepth 100000
namespace Sr
open Go Go.Proofs Go.RowKit Go.Maps Go.WideMaps Go.Sort
section
theorem box_kept {wr w3:World}{box o:Obj}{row:Option Nat}(hG:((wr.alloc box).alloc o).grownBy w3 row)(hr:row≠some wr.heap.size): w3.heap[wr.heap.size]? = some box :=
 (hG.block _ (by simp; omega) (fun e=>hr e.symm)).trans ((jE (wr.alloc box) o (by simp)).trans (jD wr box))
theorem M2.turned {C:List Nat}{W:World}{p:Nat}{F:List Nat}{vs:List Int}{gk:List Nat}{m N:Nat}{l:List PT}{mc:Nat}{ux:Value}{ds:List Nat}{ov:Value}{out:List Tm}{wr:World}{Fr':List Nat}{Dr:WD}{vr:List Int}{gr:List Nat} 
 (h:M2 C W p F vs gk m N l mc ux ds ov out wr Fr' Dr vr gr) {w':World} (hg:wr.grownBy w' ov.ownBlock):Gw C W w' p F Fr' Dr vs vr gk gr m N :=
 h.gw.kept (h.gw.wo.kept fun b hb=>hg.block b (h.gw.wo.blt b hb) fun e1=>(h.outF b e1.symm).1 hb) ⟨hg.os.trans h.gw.fr.os,hg.tape.trans h.gw.fr.tape,hg.output.trans h.gw.fr.output,Nat.le_trans h.gw.fr.size hg.size,fun b hb hn =>
  (hg.block b (Nat.lt_of_lt_of_le hb h.gw.fr.size) (fun e1=>by have:=(h.outF b e1.symm).2; omega)).trans (h.gw.fr.block b hb hn)⟩
theorem irow_cell {w:World}{v:Value}{ds:List Nat}(h:IRow w v ds){ge k i:Nat}(hb:v.ownBlock=some ge)(hi:ds[k]? = some i): w.cell? ⟨ge,k,none⟩=some (.int .i64 (i:Nat)):=by
 obtain⟨h1,⟨rfl,h2⟩ | ⟨g,cap,cur,rfl,h3,h4,h5,h6,h7,h8⟩⟩:=h
 ·cases hb
 ·cases hb
  have hk:=(jL hi).1
  have e:(ds.map fun (i:Nat)=>Value.int .i64 (i:Nat))[k]? = some (.int .i64 (i:Nat)):=by rw[List.getElem?_map,hi];rfl
  show w.cell? ⟨g,k,none⟩=_
  rw[jB h4,← Array.getElem?_toList,← e,← h8,List.getElem?_take_of_lt (by omega)]
variable {h:Int}
theorem tmod2_even (e:h % 2=0): h.tmod 2=0:=Int.tmod_eq_zero_of_dvd (Int.dvd_of_emod_eq_zero e)
theorem tdiv2_even (e:h % 2=0): h.tdiv 2=h / 2:=Int.tdiv_eq_ediv_of_dvd (Int.dvd_of_emod_eq_zero e)
theorem tmod2_odd (e:h % 2≠0): ¬ h.tmod 2=0:=fun h0=>e (Int.emod_eq_zero_of_dvd (Int.dvd_of_tmod_eq_zero h0))
theorem tm4 (y:Int): (y.tmod 4+4).tmod 4=y % 4:=by
 rcases Int.le_total 0 y with h | h
 ·have h1:y.tmod 4=y % 4:=Int.tmod_eq_emod_of_nonneg h
  rw[h1,Int.tmod_eq_emod_of_nonneg (by omega)];omega
 ·obtain⟨k,rfl⟩:∃ k:Int,y = -k:=⟨-y,by omega⟩
  have h1:(-k).tmod 4 = -(k % 4):=by rw[Int.neg_tmod,Int.tmod_eq_emod_of_nonneg (by omega)]
  rw[h1,Int.tmod_eq_emod_of_nonneg (by omega)];omega
theorem tm4_bd (y:Int): -3≤y.tmod 4∧y.tmod 4≤3:=by
 rcases Int.le_total 0 y with h | h
 ·have h1:y.tmod 4=y % 4:=Int.tmod_eq_emod_of_nonneg h
  omega
 ·obtain⟨k,rfl⟩:∃ k:Int,y = -k:=⟨-y,by omega⟩
  have h1:(-k).tmod 4 = -(k % 4):=by rw[Int.neg_tmod,Int.tmod_eq_emod_of_nonneg (by omega)]
  omega
theorem out_len {out:List Tm}{vr:List Int}(ha:out.Pairwise (fun a b=>a.2+1<b.2))(hm:∀ t∈out,(t.2:Int)∈vr): out.length≤vr.length:=by
 have h1:(out.map (·.2)).Nodup:=by unfold List.Nodup; rw[List.pairwise_map];exact ha.imp (fun h=>by omega)
 have:=jT (out.map (·.2)) (vr.map Int.toNat) h1 (fun e he=>by
  obtain⟨t,ht,rfl⟩:=List.mem_map.1 he
  exact List.mem_map.2 ⟨_,hm t ht,by simp⟩)
 simpa using this
def NextC (C:List Nat)(p m e:Nat): Prop:=∀ (W:World) (F:List Nat) (D:WD) (vs:List Int) (gk:List Nat) (a:Nat),Hid (WO C W p F D vs gk m)→vs[a]? = some (e:Int) →
 Calls Tryz.prog 134 #[.pointer (some ⟨p,0,none⟩),.int .i64 (a:Nat)] W fun x W'=>∃ (F':List Nat) (D':WD) (vs':List Int) (gk':List Nat) (b:Nat),x=.returned (.int .i64 (b:Nat))∧Hid (vs'[b]? = some ((e+1:Nat):Int))∧Hid (Gw C W W' p F F' D' vs vs' gk gk' m (e+1))
theorem sum_calls {C:List Nat}{W:World}{p:Nat}{F:List Nat}{D:WD}{vs:List Int}{gks:List Nat}{m N J:Nat}{P:List Nat}(H:Hid (WO C W p F D vs gks m))(v:Value)(l:List PT)(hl0:TRow W v l)(hJ:J≤4096)(hlJ:4*(l.length+1)≤J) 
 (hok:∀ t∈l,∃ e:Nat,vs[t.2]? = some (e:Int)∧e∈P∧e≤N) (hT:∀ e:Nat,2 ^ e<(ptv vs l).natAbs→e<N)
 (HN:∀ e,e<N→(∃ q∈P,∃ j,j<J∧e=q+j)→NextC C p m e) :
 Calls Tryz.prog 104 #[.pointer (some ⟨p,0,none⟩),v] W fun x W'=>∃ (F':List Nat) (D':WD) (vs':List Int) (gk':List Nat) (v':Value),x=.returned v'∧Hid (TRow W' v' (pl vs' (form (ptv vs l))))∧Hid (∀ t∈form (ptv vs l),(t.2:Int)∈vs') ∧
  Hid (∀ b,v'.ownBlock=some b→W.heap.size≤b∧b∉F')∧Hid (Gw C W W' p F F' D' vs vs' gks gk' m N):=by
 have hlen:l.length≤1000000:=by omega
 have HT:Hid (∀ e:Nat,2 ^ e<(ptv vs l).natAbs→e<N):=hT
 have HJ:Hid (J≤4096∧4*(l.length+1)≤J):=⟨hJ,hlJ⟩
 have HNx:Hid (∀ e,e<N→(∃ q∈P,∃ j,j<J∧e=q+j)→NextC C p m e):=HN
 have Hok2:Hid (∀ t∈l,∃ e:Nat,vs[t.2]? = some (e:Int)∧e∈P∧e≤N):=hok
 replace hok:PTok vs l:=fun t ht=>by obtain⟨e,he,_⟩:=hok t ht; exact⟨e,he⟩
 clear hT hJ hlJ HN
 have Hl:Hid (TRow W v l):=hl0
 have Hok:Hid (PTok vs l):=hok
 obtain⟨va,ca,rfl,_,_⟩:=hl0.shape
 have hmm:=@run_makeMap Tryz.prog
 have M0:Hid (CMap (W.alloc (.map #[] 0)) W.heap.size []):=CMap.made W
 have B0:Hid (Below W.heap.size W (W.alloc (.map #[] 0))):=(Below.refl _ _).alloc (jR _) _
 have I0:Hid (IRow (W.alloc (.map #[] 0)) (.slice none 0 0) []):=⟨rfl,.inl ⟨rfl,rfl⟩⟩
 clear hl0 hok
 go_enter Tryz.func104,Tryz.ntmps104
 go_wp2_with fail
 go_loopg [6,21] l.length (fun g1 vx vi wr=>∃ (k:Nat) (ux:Value),vx=ux∧vi=.int .i64 k∧k≤l.length∧l.length - k≤g1∧Hid (IRow wr ux (plcs (l.take k)))∧Hid (CMap wr W.heap.size (l.take k))∧Hid (Below W.heap.size W wr)∧Hid (∀ b,ux.ownBlock=some b→W.heap.size≤b))
 case atStart=>exact⟨0,_,rfl,rfl,by omega,by omega,I0,M0,B0,fun b hb=>by cases hb⟩
 case round =>
  clear M0 B0 I0
  obtain⟨k,ux,rfl,rfl,hkl,hg,HI,HM,HB,HO⟩:=hrel
  by_cases hk:k<l.length
  ·have hkz:(k:Int)<(l.length:Int):=by omega
   have hk0:(0:Int)≤(k:Int):=Int.natCast_nonneg k
   have hkw:IntKind.i64.wrap ((k:Int)+1)=(k:Int)+1:=IntWalk.i64_in _ (by omega)
   obtain⟨_,_,ea,_,sa⟩:=TRow.shape (jK Hl.out HB.out)
   cases ea
   obtain⟨⟨sx,ax⟩,hx⟩:∃ x,l[k]? = some x:=⟨_,jG hk⟩
   obtain⟨ga,rfl,cx0,cx1⟩:=sa k _ hx
   have Hx:Hid _:=hx
   dsimp only at cx0 cx1
   have la0:ga<wr.heap.size:=jg cx0
   have la1:ga≠wr.heap.size:=by omega
   have la2:ga≠wr.heap.size+1:=by omega
   clear sa hx
   have hax:ax<9223372036854775808:=by
    obtain⟨e,he⟩:=Hok.out _ (jM Hx.out)
    have h1:=(jL he).1
    have:=H.out.vlen
    simp at h1; omega
   have hsz:=HB.out.size
   have hmc:=HM.out.lt
   have hcb:(cntP (l.take k) ax).natAbs≤1000000:=by have:=cntP_abs (l.take k) ax; rw[List.length_take] at this; omega
   have hw1:IntKind.i64.wrap (cntP (l.take k) ax - 1)=cntP (l.take k) ax - 1:=IntWalk.i64_in _ (by omega)
   have hw2:IntKind.i64.wrap (cntP (l.take k) ax+1)=cntP (l.take k) ax+1:=IntWalk.i64_in _ (by omega)
   have hpl:(plcs (l.take k)).length+1≤1099511627776:=by have:=plcs_len (l.take k);rw[List.length_take] at this; omega
   have HK:Hid (∀ o,CMap (wr.alloc o) W.heap.size (l.take k)):=fun o=>HM.out.kept (jE _ _ hmc)
   by_cases hmem:ax∈plcs (l.take k)
   ·have hl2:=HM.out.look2 hax (decide_eq_true hmem) (wr.alloc (.cells #[.bool sx,.int .i64 ax] 154)) (jE _ _ hmc)
    have hl1:=HM.out.look1 hax (wr.alloc (.cells #[.bool sx,.int .i64 ax] 154)) (jE _ _ hmc)
    have HI1:Hid (IRow (wr.alloc (.cells #[.bool sx,.int .i64 ax] 154)) u6 (plcs (l.take (k+1)))):=by
     show IRow _ _ _
     rw[j8 Hx.out,zk,if_pos hmem];exact World.ownsRow.alloc HI.out _
    have HB1:Hid (Below W.heap.size W (wr.alloc (.cells #[.bool sx,.int .i64 ax] 154))):=HB.out.alloc hsz _
    cases sx
    ·
     obtain⟨w4,hrun,HM4,HG4⟩:=(HK.out (.cells #[.bool false,.int .i64 ax] 154)).put (false,ax) hax (c:=cntP (l.take k) ax+1) rfl
     have HM5:Hid (CMap w4 W.heap.size (l.take (k+1))):=by
      show CMap _ _ _
      rw[j8 Hx.out];exact HM4
     have HI5:Hid (IRow w4 u6 (plcs (l.take (k+1)))):=HI1.out.kept HG4 (by
      cases hv:u6.ownBlock with
      | none=>exact .inl rfl
      | some b=>right; intro e; cases e; exact qD (jh HI1.out hv) (HK.out (.cells #[.bool false,.int .i64 ax] 154)).choose_spec.1 rfl)
     have HB5:Hid (Below W.heap.size W w4):=HB1.out.grown HG4 (by simp; omega) (fun b hb=>by cases hb; exact jR _)
     clear HM4 HG4
     clear HI HM HB HK
     go_wp2_with fail
     go_roundg (l.length - (k+1))
     case measure=>omega
     case rel=>exact⟨k+1,_,rfl,by go_num,by omega,by omega,HI5,HM5,HB5,HO⟩
    ·
     obtain⟨w4,hrun,HM4,HG4⟩:=(HK.out (.cells #[.bool true,.int .i64 ax] 154)).put (true,ax) hax (c:=cntP (l.take k) ax - 1) rfl
     have HM5:Hid (CMap w4 W.heap.size (l.take (k+1))):=by
      show CMap _ _ _
      rw[j8 Hx.out];exact HM4
     have HI5:Hid (IRow w4 u6 (plcs (l.take (k+1)))):=HI1.out.kept HG4 (by
      cases hv:u6.ownBlock with
      | none=>exact .inl rfl
      | some b=>right; intro e; cases e; exact qD (jh HI1.out hv) (HK.out (.cells #[.bool true,.int .i64 ax] 154)).choose_spec.1 rfl)
     have HB5:Hid (Below W.heap.size W w4):=HB1.out.grown HG4 (by simp; omega) (fun b hb=>by cases hb; exact jR _)
     clear HM4 HG4
     clear HI HM HB HK
     go_wp2_with fail
     go_roundg (l.length - (k+1))
     case measure=>omega
     case rel=>exact⟨k+1,_,rfl,by go_num,by omega,by omega,HI5,HM5,HB5,HO⟩
   ·have hl2:=HM.out.look2 hax (decide_eq_false hmem) (wr.alloc (.cells #[.bool sx,.int .i64 ax] 154)) (jE _ _ hmc)
    have HU:Hid (∀ b,u6.ownBlock=some b→b<wr.heap.size):=fun b hb=>jP HI.out hb
    have HI1:Hid (∀ o:Obj,IRow ((wr.alloc (.cells #[.bool sx,.int .i64 ax] 154)).alloc o) u6 (plcs (l.take k))):=fun o=>World.ownsRow.alloc (World.ownsRow.alloc HI.out _) o
    have HB1:Hid (∀ o:Obj,Below W.heap.size W ((wr.alloc (.cells #[.bool sx,.int .i64 ax] 154)).alloc o)):=fun o=>(HB.out.alloc hsz _).alloc (by simp; omega) o
    have HK1:Hid (∀ o:Obj,CMap ((wr.alloc (.cells #[.bool sx,.int .i64 ax] 154)).alloc o) W.heap.size (l.take k)):=fun o=>(HK.out _).kept (jE _ _ (by simp; omega))
    cases sx
    ·
     clear HI HM HB HK
     go_wp2_with (at_builtin; go_loud (refine app_I1 rfl _ _ rfl u6 (plcs (l.take k)) rfl (HI1.out _) (wr.heap.size+1) ax rfl (qA _ _ _) hpl ?_);intro v' w3 I3 G3 N3 A3
                  have hrow:∀ b,u6.ownBlock=some b→b≠W.heap.size:=fun b hb=>by
                   rintro rfl
                   exact qD (jh (HI1.out (.cells #[] 0)) hb) (HK1.out (.cells #[] 0)).choose_spec.1 rfl
                  have HM3:CMap w3 W.heap.size (l.take k):=(HK1.out (.cells #[.int .i64 ax] 3)).kept (G3.block _ (by simp; omega) (fun e=>hrow _ e.symm rfl))
                  have hl1:=HM3.look1 hax w3 rfl
                  have hbox:=box_kept G3 (fun e=>by have:=HU.out _ e; omega)
                  have q1:w3.cell? ⟨wr.heap.size,1,none⟩=some (.int .i64 ax):=by rw[jB hbox];rfl
                  have q0:w3.cell? ⟨wr.heap.size,0,none⟩=some (.bool false):=by rw[jB hbox];rfl
                  obtain⟨w4,hrun,HM4,HG4⟩:=HM3.put (false,ax) hax (c:=cntP (l.take k) ax+1) rfl
                  have HI5:Hid (IRow w4 v' (plcs (l.take (k+1)))):=by
                   show IRow _ _ _
                   rw[j8 Hx.out,zk,if_neg hmem]
                   exact World.ownsRow.kept I3 HG4 (by
                    cases hv:v'.ownBlock with
                    | none=>exact .inl rfl
                    | some b=>right; intro e; cases e; exact qD (jh I3 hv) HM3.choose_spec.1 rfl)
                  have HM5:Hid (CMap w4 W.heap.size (l.take (k+1))):=by
                   show CMap _ _ _
                   rw[j8 Hx.out];exact HM4
                  have HB5:Hid (Below W.heap.size W w4):=((HB1.out _).grown G3 (by simp; omega) (fun b hb=>HO.out b hb)).grown HG4 (Nat.le_trans (HB1.out (.cells #[.int .i64 ax] 3)).size G3.size) (fun b hb=>by cases hb; exact jR _)
                  have HO5:Hid (∀ b,v'.ownBlock=some b→W.heap.size≤b):=fun b hb=>by
                   rcases A3 with A3 | A3
                   ·exact HO.out b (A3▸hb)
                   ·rw[A3] at hb; cases hb; simp; omega
                  clear HM4 HG4 HM3 hrow I3 G3 N3 A3)
     go_roundg (l.length - (k+1))
     case measure=>omega
     case rel=>exact⟨k+1,v',rfl,by go_num,by omega,by omega,HI5,HM5,HB5,HO5⟩
    ·
     clear HI HM HB HK
     go_wp2_with (at_builtin; go_loud (refine app_I1 rfl _ _ rfl u6 (plcs (l.take k)) rfl (HI1.out _) (wr.heap.size+1) ax rfl (qA _ _ _) hpl ?_);intro v' w3 I3 G3 N3 A3
                  have hrow:∀ b,u6.ownBlock=some b→b≠W.heap.size:=fun b hb=>by
                   rintro rfl
                   exact qD (jh (HI1.out (.cells #[] 0)) hb) (HK1.out (.cells #[] 0)).choose_spec.1 rfl
                  have HM3:CMap w3 W.heap.size (l.take k):=(HK1.out (.cells #[.int .i64 ax] 3)).kept (G3.block _ (by simp; omega) (fun e=>hrow _ e.symm rfl))
                  have hl1:=HM3.look1 hax w3 rfl
                  have hbox:=box_kept G3 (fun e=>by have:=HU.out _ e; omega)
                  have q1:w3.cell? ⟨wr.heap.size,1,none⟩=some (.int .i64 ax):=by rw[jB hbox];rfl
                  have q0:w3.cell? ⟨wr.heap.size,0,none⟩=some (.bool true):=by rw[jB hbox];rfl
                  obtain⟨w4,hrun,HM4,HG4⟩:=HM3.put (true,ax) hax (c:=cntP (l.take k) ax - 1) rfl
                  have HI5:Hid (IRow w4 v' (plcs (l.take (k+1)))):=by
                   show IRow _ _ _
                   rw[j8 Hx.out,zk,if_neg hmem]
                   exact World.ownsRow.kept I3 HG4 (by
                    cases hv:v'.ownBlock with
                    | none=>exact .inl rfl
                    | some b=>right; intro e; cases e; exact qD (jh I3 hv) HM3.choose_spec.1 rfl)
                  have HM5:Hid (CMap w4 W.heap.size (l.take (k+1))):=by
                   show CMap _ _ _
                   rw[j8 Hx.out];exact HM4
                  have HB5:Hid (Below W.heap.size W w4):=((HB1.out _).grown G3 (by simp; omega) (fun b hb=>HO.out b hb)).grown HG4 (Nat.le_trans (HB1.out (.cells #[.int .i64 ax] 3)).size G3.size) (fun b hb=>by cases hb; exact jR _)
                  have HO5:Hid (∀ b,v'.ownBlock=some b→W.heap.size≤b):=fun b hb=>by
                   rcases A3 with A3 | A3
                   ·exact HO.out b (A3▸hb)
                   ·rw[A3] at hb; cases hb; simp; omega
                  clear HM4 HG4 HM3 hrow I3 G3 N3 A3)
     go_roundg (l.length - (k+1))
     case measure=>omega
     case rel=>exact⟨k+1,v',rfl,by go_num,by omega,by omega,HI5,HM5,HB5,HO5⟩
  ·have hkz:¬ ((k:Int)<(l.length:Int)):=by omega
   have hkl2:k=l.length:=by omega
   have hw:=H.out.below HB.out
   have hI:IRow wr u6 (plcs l):=by have:=HI.out; rw[List.take_of_length_le (by omega)] at this; exact this
   have hM:CMap wr W.heap.size l:=by have:=HM.out; rw[List.take_of_length_le (by omega)] at this; exact this
   have hnb:∀ b,W.heap.size≤b→b∉F:=fun b hb hm=>by have:=H.out.blt b hm; omega
   have hpk:∀ i∈plcs l,∃ e:Nat,vs[i]? = some (e:Int)∧e∈P∧e≤N:=fun i hi=>by
    obtain⟨t,ht,rfl⟩:=(plcs_mem l i).1 hi
    exact Hok2.out t ht
   have HS:=sortAny hw hI (fun b hb=>hnb b (HO.out b hb)) (fun i hi=>by obtain⟨e,he,_⟩:=hpk i hi; exact⟨_,he⟩) (by have:=plcs_len l; omega)
   have HX:Hid (∀ (ds:List Nat) (w2:World),ds.Perm (plcs l)→(ds.Pairwise fun i j=>zb vs i≤zb vs j)→WO C w2 p F D vs gks m→IRow w2 u6 ds→Fr (u6.ownBlock.toList++F) wr w2 →
    Ds vs P N l ds∧M2 C W p F vs gks m N l W.heap.size u6 ds (.slice none 0 0) [] w2 F D vs gks∧G2 vs P l (ptv vs l) ds 0 0 0 0 [] vs):=fun ds w2 h1 h2 h3 h4 h5=>by
    have hd:Ds vs P N l ds:=⟨h1,h2,fun i hi=>by
     obtain⟨e,e1,e2,e3⟩:=hpk i (h1.mem_iff.1 hi)
     have e4:eAt vs i=e:=by unfold eAt; rw[zE e1];rfl
     rw[e4];exact⟨e1,e2,e3⟩⟩
    refine⟨hd,M2.start N h3 ?_ ?_ h4 ⟨hnb _ (jR _),jR _⟩ (fun b hb=>⟨hnb b (HO.out b hb),HO.out b hb⟩),G2.start hd h3.wv 0 0⟩
    ·refine⟨h5.os.trans HB.out.os,h5.tape.trans HB.out.tape,h5.output.trans HB.out.output,Nat.le_trans HB.out.size h5.size,fun b hb hn=>?_⟩
     refine (h5.block b (Nat.lt_of_lt_of_le hb HB.out.size) fun hm=>?_).trans (HB.out.block b hb)
     rcases List.mem_append.1 hm with hm | hm
     ·have:=HO.out b (by simpa using hm);omega
     ·exact hn hm
    ·refine hM.kept (h5.block _ hM.lt fun hm=>?_)
     rcases List.mem_append.1 hm with hm | hm
     ·exact qD (jh hI (by simpa using hm)) hM.choose_spec.1 rfl
     ·exact hnb _ (jR _) hm
   clear hw hI hM hnb hpk HI HM HB HO Hl hg hkl hkl2
   go_wp2_with fail
   refine HS.mono ?_
   rintro x w2 ⟨rfl,ds,hp1,hp2,hp3,hp4,hp5⟩
   obtain⟨hd,hm2,hg2⟩:=HX.out ds w2 hp1.out hp2.out hp3.out hp4.out hp5.out
   have HD:Hid (Ds vs P N l ds):=hd
   have HM2:Hid _:=hm2
   have HG2:Hid _:=hg2
   clear hd hm2 hg2 HX HS hp1 hp2 hp3 hp4 hp5
   generalize u6=ux at HM2
   go_wp2_with fail
   have hsh:∃ base c,ux=.slice base ds.length c∧(0<ds.length→∃ ge,base=some ⟨ge,0,none⟩∧ux.ownBlock=some ge∧ds.length≤c):=by
    obtain⟨_,⟨e1,e2⟩ | ⟨ge,cap,cur,e1,_,_,e2,_⟩⟩:=HM2.out.row
    ·exact⟨none,0,by rw[e1,e2],fun h=>by omega⟩
    ·exact⟨_,cap,e1,fun _=>⟨ge,rfl,by rw[e1];rfl,e2⟩⟩
   obtain⟨base0,c0,hux,hsh2⟩:=hsh
   have HSh:Hid (0<ds.length→∃ ge,base0=some ⟨ge,0,none⟩∧ux.ownBlock=some ge∧ds.length≤c0):=hsh2
   have HUx:Hid (ux=.slice base0 ds.length c0):=hux
   clear hsh2 hux
   go_loopg [6,11,12,13] (4*l.length) (fun g1 vx vo vc va wr=>∃ (k r a eN:Nat) (z carry:Int) (base:Option Addr) (c:Nat) (ov:Value) (out:List Tm) (Fw:List Nat) (Dw:WD) (vr:List Int) (gr:List Nat),
    vx=.slice base r c∧vo=ov∧vc=.int .i64 carry∧va=.int .i64 z∧Hid (carry≠0→z=(a:Nat))∧k+r=ds.length∧sumMeas (cAt vs l) ((ds.drop k).map (eAt vs)) carry eN≤g1 ∧
    Hid (0<r→∃ ge,base=some ⟨ge,k,none⟩∧ux.ownBlock=some ge∧r≤c)∧Hid (M2 C W p F vs gks m N l W.heap.size ux ds ov out wr Fw Dw vr gr)∧Hid (G2 vs P l (ptv vs l) ds k carry a eN out vr))
   case atStart=>exact⟨0,ds.length,0,0,0,0,base0,c0,_,[],F,D,vs,gks,HUx.out,rfl,rfl,rfl,fun h=>absurd rfl h,by omega,HG2.out.meas,HSh,HM2,HG2⟩
   case round =>
    clear HM2 HG2 HSh HUx
    obtain⟨k,r,a,eN,z,carry,base,c,ov,out,Fw,Dw,vr,gr,rfl,rfl,rfl,rfl,HZ,hkr,hms,HSh,HM2,HG2⟩:=hrel
    by_cases hz:r=0∧carry=0
    ·obtain⟨rfl,rfl⟩:=hz
     have HR:=reverse_calls HM2.out.outr (by
      have h1:=out_len HG2.out.inv.asc HM2.out.mem
      have h2:=HM2.out.gw.wo.vlen
      unfold pl; rw[List.length_map];omega)
     have HE:Hid (form (ptv vs l)=out.reverse):=by
      have:=HG2.out.inv
      rw[zl (by omega)] at this
      exact this.done
     go_wp2_with fail
     refine HR.mono ?_
     rintro x w3 ⟨rfl,hr1,hr2⟩
     go_wp2_with fail
     go_ret
     refine⟨Fw,Dw,vr,gr,_,rfl,?_,?_,fun b hb=>⟨(HM2.out.outF b hb).2,(HM2.out.outF b hb).1⟩,HM2.out.turned hr2.out⟩
     ·show TRow _ _ _
      rw[HE.out]
      have e:pl vr out.reverse=(pl vr out).reverse:=by unfold pl; rw[List.map_reverse]
      rw[e];exact hr1.out
     ·show ∀ t∈_,_
      rw[HE.out]
      intro t ht
      exact HM2.out.mem t (List.mem_reverse.1 ht)
    ·have hcz:carry≠0∨(carry=0∧0<r):=by omega
     have hcb:=carry_bd HG2.out
     have hJ:=HJ.out
     go_upto_region 16 with fail
     go_cut [62] from 56 to 138 (fun vb wq=>vb=.bool true∧wq=wr)
     case first =>
      by_cases hr:0<r
      ·have hr2:(0:Int)<(r:Int):=by omega
       go_wp2_with fail
       go_meet
       case rel=>exact⟨rfl,rfl⟩
      ·have hr2:¬ ((0:Int)<(r:Int)):=by omega
       have hc2:(carry != 0)=true:=by simp; omega
       go_wp2_with fail
       go_meet
       case rel=>exact⟨rfl,rfl⟩
     case rest =>
      obtain⟨rfl,rfl⟩:=hcut
      go_upto_if 64 with fail
      go_cut [13] from 56 to 138 (fun va wq=>∃ a1:Nat,va=.int .i64 (a1:Nat)∧wq=wc∧Hid ((carry=0∧ds[k]? = some a1)∨(carry≠0∧a1=a)))
      case first =>
       rcases hcz with hc | ⟨rfl,hr⟩
       ·have hc2:(carry==0)=false:=by simp; omega
        go_wp2_with fail
        go_meet
        case rel=>exact⟨a,by rw[HZ.out hc],rfl,.inr ⟨hc,rfl⟩⟩
       ·obtain⟨ge,rfl,hge,_⟩:=HSh.out hr
        obtain⟨i,hi⟩:∃ i,ds[k]? = some i:=⟨_,jG (by omega)⟩
        have hcell:=irow_cell HM2.out.row hge hi
        have Hi:Hid (ds[k]? = some i):=hi
        clear hi hge
        have hr2:(0:Int)<(r:Int):=by omega
        go_wp2_with fail
        go_meet
        case rel=>exact⟨i,rfl,rfl,.inl ⟨by trivial,Hi.out⟩⟩
      case rest =>
       obtain⟨a1,rfl,rfl,HA1⟩:=hcut
       go_upto_region 20 with fail
       go_cut [78] from 56 to 138 (fun vb wq=>∃ b:Bool,vb=.bool b∧wq=wc∧Hid (b=true↔ds[k]? = some a1))
       case first =>
        by_cases hr:0<r
        ·obtain⟨ge,rfl,hge,_⟩:=HSh.out hr
         obtain⟨i,hi⟩:∃ i,ds[k]? = some i:=⟨_,jG (by omega)⟩
         have hcell:=irow_cell HM2.out.row hge hi
         have Hi:Hid (ds[k]? = some i):=hi
         clear hi hge
         have hr2:(0:Int)<(r:Int):=by omega
         by_cases hia:i=a1
         ·subst hia
          go_wp2_with fail
          go_meet
          case rel=>exact⟨true,rfl,rfl,by show _↔_; rw[Hi.out];simp⟩
         ·have hia2:((i:Int)==(a1:Int))=false:=by simp; omega
          have hia3:¬ ((i:Int)=(a1:Int)):=by omega
          go_wp2_with fail
          go_meet
          case rel=>exact⟨false,rfl,rfl,by show _↔_; rw[Hi.out];simp[hia]⟩
        ·have hr2:¬ ((0:Int)<(r:Int)):=by omega
         have Hn:Hid (ds[k]? = none):=List.getElem?_eq_none (by omega)
         go_wp2_with fail
         go_meet
         case rel=>exact⟨false,rfl,rfl,by show _↔_; rw[Hn.out];simp⟩
       case rest =>
        obtain⟨b,rfl,rfl,HB1⟩:=hcut
        have hvs:=H.out.wv
        have hpre:=HM2.out.gw.pre
        have hwv:=HM2.out.gw.wo.wv
        have HG3:Hid ((b=true→∃ Q,G3 vs P l ds k carry eN vr (k+1) a1 Q (carry+cntP l a1))∧(b=false→∃ Q,G3 vs P l ds k carry eN vr k a1 Q carry)):=by
         constructor
         ·intro hb
          have hk:=HB1.out.1 hb
          rcases HA1.out with ⟨rfl,h1⟩ | ⟨h1,rfl⟩
          ·have:=HG2.out.stepA HD.out hvs hpre hk
           rw[Int.zero_add]
           exact⟨_,this⟩
          ·exact⟨_,HG2.out.stepB HD.out hvs hwv hpre h1 hk⟩
         ·intro hb
          rcases HA1.out with ⟨rfl,h1⟩ | ⟨h1,rfl⟩
          ·have:=HB1.out.2 h1; rw[hb] at this; cases this
          ·refine⟨_,HG2.out.stepC HD.out hwv hpre h1 fun i hi e=>?_⟩
           subst e
           have:=HB1.out.2 hi; rw[hb] at this; cases this
        clear hvs hpre hwv
        go_upto_if 78 with fail
        go_cut [6,14] from 56 to 138 (fun vx vh wq=>∃ (k' r' Q:Nat) (here:Int) (base':Option Addr) (c':Nat),vx=.slice base' r' c'∧vh=.int .i64 here∧wq=wc∧k'+r'=ds.length ∧
         Hid (0<r'→∃ ge,base'=some ⟨ge,k',none⟩∧ux.ownBlock=some ge∧r'≤c')∧Hid (G3 vs P l ds k carry eN vr k' a1 Q here))
        case first =>
         cases b
         ·obtain⟨Q,h3⟩:=HG3.out.2 rfl
          have H3:Hid (G3 vs P l ds k carry eN vr k a1 Q carry):=h3
          clear h3
          go_wp2_with fail
          go_meet
          case rel=>exact⟨k,r,Q,carry,base,c,rfl,rfl,rfl,hkr,HSh,H3⟩
         ·obtain⟨Q,h3⟩:=HG3.out.1 rfl
          have H3:Hid (G3 vs P l ds k carry eN vr (k+1) a1 Q (carry+cntP l a1)):=h3
          have hk:=HB1.out.1 rfl
          have hkl:=(jL hk).1
          obtain⟨r',rfl⟩:∃ r',r=r'+1:=⟨r - 1,by omega⟩
          obtain⟨ge,rfl,hge,hrc⟩:=HSh.out (Nat.succ_pos _)
          obtain⟨c',rfl⟩:∃ c',c=c'+1:=⟨c - 1,by omega⟩
          have ha1:a1<9223372036854775808:=by
           have h1:=(jL h3.at').1
           have:=HM2.out.gw.wo.vlen; omega
          have hl1:=HM2.out.cm.look1 ha1 wc rfl
          have hbd:=h3.bd
          have hcw:IntKind.i64.wrap (carry+cntP l a1)=carry+cntP l a1:=IntWalk.i64_in _ (by omega)
          have Hge:Hid (ux.ownBlock=some ge):=hge
          have Hkr:Hid (k+1+r'=ds.length):=by show _=_; omega
          clear h3 hk hkl hbd hge
          by_cases hc0:c'=0
          ·have hr0:r'=0:=by omega
           subst hc0
           subst hr0
           go_wp2_with fail
           go_meet
           case rel=>exact⟨k+1,0,Q,_,_,_,rfl,rfl,rfl,Hkr.out,fun h=>absurd h (by omega),H3⟩
          ·go_wp2_with fail
           go_meet
           case rel=>exact⟨k+1,r',Q,_,_,_,rfl,rfl,rfl,Hkr.out,fun h=>⟨ge,rfl,Hge.out,by omega⟩,H3⟩
        case rest =>
         obtain⟨k',r',Q,here,base',c',rfl,rfl,rfl,hkr',HSh',HG3'⟩:=hcut
         have hMz:=HG2.out.meas
         by_cases h0:here=0
         ·subst h0
          have H2:Hid (G2 vs P l (ptv vs l) ds k' 0 a1 Q out vr):=HG3'.out.zero HG2.out rfl a1
          have hm:sumMeas (cAt vs l) ((ds.drop k').map (eAt vs)) 0 Q<sumMeas (cAt vs l) ((ds.drop k).map (eAt vs)) carry eN:=by
           rw[HG3'.out.rest];exact sumMeas_zero HG3'.out.ne Q HG3'.out.hereE.symm
          clear HG2
          go_wp2_with fail
          go_roundg (sumMeas (cAt vs l) ((ds.drop k').map (eAt vs)) 0 Q)
          case measure=>omega
          case rel=>exact⟨k',r',a1,Q,_,0,base',c',_,out,Fw,Dw,vr,gr,rfl,rfl,rfl,rfl,fun h=>absurd rfl h,hkr',jR _,HSh',HM2,H2⟩
         ·have h0b:(here==0)=false:=by simpa using h0
          go_upto_region 27 with fail
          go_cut [98] from 56 to 138 (fun vb wq=>∃ b2:Bool,vb=.bool b2∧wq=wc∧Hid (b2=true↔(k'<ds.length∨(here≠1∧here≠-1))))
          case first =>
           by_cases hr:0<r'
           ·have hr2:(0:Int)<(r':Int):=by omega
            have Hk:Hid (k'<ds.length):=by show _<_; omega
            go_wp2_with fail
            go_meet
            case rel=>exact⟨true,rfl,rfl,by show _↔_; simp[Hk.out]⟩
           ·have hr2:¬ ((0:Int)<(r':Int)):=by omega
            have Hk:Hid (¬ k'<ds.length):=by show ¬ _; omega
            by_cases hh1:here=1
            ·subst hh1
             go_wp2_with fail
             go_meet
             case rel=>exact⟨false,rfl,rfl,by show _↔_; simp[Hk.out]⟩
            ·have hh1b:(here != 1)=true:=by simpa using hh1
             by_cases hh2:here = -1
             ·subst hh2
              go_wp2_with fail
              go_meet
              case rel=>exact⟨false,rfl,rfl,by show _↔_; simp[Hk.out]⟩
             ·have hh2b:(here != -1)=true:=by simpa using hh2
              go_wp2_with fail
              go_meet
              case rel=>exact⟨true,rfl,rfl,by show _↔_; simp[Hk.out,hh1,hh2]⟩
          case rest =>
           obtain⟨b2,rfl,rfl,HB2⟩:=hcut
           go_upto_if 98 with fail
           go_cut [15,16] from 56 to 138 (fun vu vab wq=>∃ (z above:Int) (up:Nat) (F5:List Nat) (D5:WD) (v5:List Int) (g5:List Nat),vu=.int .i64 z∧vab=.int .i64 above ∧
            Hid (M2 C W p F vs gks m N l W.heap.size ux ds u11 out wq F5 D5 v5 g5)∧Hid (above=aboveOf (cAt vs l) ((ds.drop k').map (eAt vs)) (Q+1))∧Hid (above.natAbs≤l.length) ∧
            Hid ((k'<ds.length∨(here≠1∧here≠-1))→z=(up:Nat)∧v5[up]? = some ((Q+1:Nat):Int))∧Hid (v5[a1]? = some (Q:Int)))
           case first =>
            cases b2
            ·have HN0:Hid (¬ (k'<ds.length∨(here≠1∧here≠-1))):=fun h=>by have:=HB2.out.2 h; cases this
             have HA0:Hid ((0:Int)=aboveOf (cAt vs l) ((ds.drop k').map (eAt vs)) (Q+1)):=by
              have h1:=HN0.out
              show _=_
              rw[zl (by omega)];rfl
             go_wp2_with fail
             go_meet
             case rel=>exact⟨-1,0,0,Fw,Dw,vr,gr,rfl,rfl,HM2,HA0,Nat.zero_le _,fun h=>absurd h HN0.out,HG3'.out.at'⟩
            ·have hcnd:=HB2.out.1 rfl
             have hQ:=HG3'.out.below HG2.out HD.out HT.out hcnd h0
             have HNc:=HNx.out Q hQ (by
              obtain⟨q,hq,j,hj,hjm⟩:=HG3'.out.chain
              have:=HJ.out
              exact⟨q,hq,j,by omega,hj⟩) wc Fw Dw vr gr a1 HM2.out.gw.wo HG3'.out.at'
             go_wp2_with fail
             refine HNc.mono ?_
             rintro x w5 ⟨F5,D5,v5,g5,b5,rfl,hb5,hgw⟩
             have HM5:Hid (M2 C W p F vs gks m N l W.heap.size ux ds u11 out w5 F5 D5 v5 g5):=HM2.out.next hgw.out (by omega)
             have HAb:=above_of (k':=k') HD.out H.out.wv hgw.out.wo.wv HM5.out.gw.pre hb5.out
             have HUp:Hid ((k'<ds.length∨(here≠1∧here≠-1))→(b5:Int)=(b5:Nat)∧v5[b5]? = some ((Q+1:Nat):Int)):=fun _=>⟨rfl,hb5.out⟩
             have Hb5:Hid (b5<9223372036854775808):=by
              have h1:=(jL hb5.out).1
              have h2:=hgw.out.wo.vlen
              show _<_; omega
             have HAb2:Hid _:=HAb
             have HA5:Hid (v5[a1]? = some (Q:Int)):=jW hgw.out.pre HG3'.out.at'
             clear HNc hcnd hgw hb5 HAb
             by_cases hr:0<r'
             ·obtain⟨ge,rfl,hge,_⟩:=HSh'.out hr
              obtain⟨i,hi⟩:∃ i,ds[k']? = some i:=⟨_,jG (by omega)⟩
              have hcell:=irow_cell HM5.out.row hge hi
              have Hi:Hid (ds[k']? = some i):=hi
              clear hi hge
              have hr2:(0:Int)<(r':Int):=by omega
              by_cases hia:i=b5
              ·subst hia
               have hl1:=HM5.out.cm.look1 Hb5.out w5 rfl
               go_wp2_with fail
               go_meet
               case rel=>exact⟨i,_,i,F5,D5,v5,g5,rfl,rfl,HM5,HAb2.out.1 Hi.out,cntP_abs _ _,fun h=>⟨rfl,(HUp.out h).2⟩,HA5⟩
              ·have hia2:((i:Int)==(b5:Int))=false:=by simp; omega
               have hia3:¬ ((i:Int)=(b5:Int)):=by omega
               go_wp2_with fail
               go_meet
               case rel=>exact⟨b5,0,b5,F5,D5,v5,g5,rfl,rfl,HM5,HAb2.out.2 (fun q hq e=>hia (by rw[Hi.out] at hq; cases hq; exact e)),Nat.zero_le _,fun h=>⟨rfl,(HUp.out h).2⟩,HA5⟩
             ·have hr2:¬ ((0:Int)<(r':Int)):=by omega
              have Hn:Hid (ds[k']? = none):=List.getElem?_eq_none (by omega)
              go_wp2_with fail
              go_meet
              case rel=>exact⟨b5,0,b5,F5,D5,v5,g5,rfl,rfl,HM5,HAb2.out.2 (fun q hq e=>by rw[Hn.out] at hq; cases hq),Nat.zero_le _,fun h=>⟨rfl,(HUp.out h).2⟩,HA5⟩
           case rest =>
            obtain⟨z5,above,up,F5,D5,v5,g5,rfl,rfl,HM5,HAb,HAn,HUp,HA5⟩:=hcut
            have hdn:=HG3'.out.down HG2.out h0 (v2:=v5) (up:=up) (fun h=>(HUp.out h).2) HAb.out
            have hHb:=HG3'.out.bd
            have hAn:=HAn.out
            have hms2:=fun c hc=>sumMeas_down (cnt:=cAt vs l) (carry:=carry) (e:=eN) HG3'.out.ne (c:=c) (by rw[← HG3'.out.hereE];exact h0) hc
            rw[← HG3'.out.hereE,← HG3'.out.rest,← HG3'.out.q] at hms2
            rw[← HAb.out] at hms2
            have hznc:¬ (k'<ds.length∨(here≠1∧here≠-1))→above=0∧(here=1∨here = -1):=fun hn=>⟨by rw[HAb.out,zl (by omega)];rfl,by omega⟩
            have hw2:IntKind.i64.wrap (2*above)=2*above:=IntWalk.i64_in _ (by omega)
            have hw3:IntKind.i64.wrap (here+2*above)=here+2*above:=IntWalk.i64_in _ (by omega)
            have hw4:IntKind.i64.wrap ((here+2*above).tmod 4+4)=(here+2*above).tmod 4+4:=IntWalk.i64_in _ (by have:=tm4_bd (here+2*above);omega)
            have htm:=tm4 (here+2*above)
            by_cases hev:here % 2=0
            ·have H2:Hid (G2 vs P l (ptv vs l) ds k' (here / 2) up (Q+1) out v5):=hdn.1 hev
             have hm:=hms2 (here / 2) (.inl ⟨hev,rfl⟩)
             have HZ2:Hid (here / 2≠0→z5=(up:Nat)):=fun _=>(HUp.out (by
              by_cases hn:k'<ds.length∨(here≠1∧here≠-1)
              ·exact hn
              ·have:=(hznc hn).2; omega)).1
             have ht2:=tmod2_even hev
             have hd2:=tdiv2_even hev
             have hwd:IntKind.i64.wrap (here / 2)=here / 2:=IntWalk.i64_in _ (by omega)
             clear hdn hms2 hznc hw2 hw3 hw4 htm
             go_wp2_with fail
             go_roundg (sumMeas (cAt vs l) ((ds.drop k').map (eAt vs)) (here / 2) (Q+1))
             case measure=>omega
             case rel=>exact⟨k',r',up,Q+1,z5,here / 2,base',c',_,out,F5,D5,v5,g5,rfl,rfl,rfl,rfl,HZ2,hkr',jR _,HSh',HM5,H2⟩
            ·have hol:(pl v5 out).length+1≤1099511627776:=by
              have h1:=out_len HG2.out.inv.asc HM5.out.mem
              have h2:=HM5.out.gw.wo.vlen
              unfold pl; rw[List.length_map];omega
             have HOut:Hid (∀ o,TRow (wc.alloc o) u11 (pl v5 out)):=fun o=>World.ownsRow.alloc HM5.out.outr o
             have HMa:Hid (∀ o,M2 C W p F vs gks m N l W.heap.size ux ds u11 out (wc.alloc o) F5 D5 v5 g5):=fun o=>HM5.out.below ((Below.refl _ _).alloc (jR _) o)
             have ht2:=tmod2_odd hev
             have ht2b:(here.tmod 2 != 0)=true:=by simpa using ht2
             have HZ2:∀ left:Int,left=leftOf here above→(here - left) / 2≠0→z5=(up:Nat):=fun left hl hne=>(HUp.out (by
              by_cases hn:k'<ds.length∨(here≠1∧here≠-1)
              ·exact hn
              ·exfalso
               obtain⟨e1,e2⟩:=hznc hn
               apply hne
               rw[hl,e1]
               rcases e2 with rfl | rfl <;>decide)).1
             by_cases h4:(here+2*above) % 4=3
             ·have hl:(-1:Int)=leftOf here above:=by unfold leftOf; rw[if_pos h4]
              have hG:=hdn.2 hev (-1) hl
              have hm:=hms2 _ (.inr ⟨hev,rfl⟩)
              have hzz:=HZ2 (-1) hl
              rw[← hl] at hm
              rw[show here - -1=here+1 by omega] at hG hm hzz
              have H2:Hid (G2 vs P l (ptv vs l) ds k' ((here+1) / 2) up (Q+1) (out++[(true,Q)]) v5):=hG
              have HZ3:Hid ((here+1) / 2≠0→z5=(up:Nat)):=hzz
              have htm3:((here+2*above).tmod 4+4).tmod 4=3:=by rw[htm,h4]
              have hd2:(here+1).tdiv 2=(here+1) / 2:=tdiv2_even (by omega)
              have hw5:IntKind.i64.wrap (here+1)=here+1:=IntWalk.i64_in _ (by omega)
              have hwd:IntKind.i64.wrap ((here+1) / 2)=(here+1) / 2:=IntWalk.i64_in _ (by omega)
              clear hdn hms2 hznc htm HZ2 hl hG hzz
              go_wp2_with (at_builtin; go_loud (refine app_T1 rfl _ _ rfl u11 (pl v5 out) rfl (HOut.out _) wc.heap.size (true,a1) rfl (jD _ _) hol ?_);intro v' w7 K7 G7 N7 A7)
              go_roundg (sumMeas (cAt vs l) ((ds.drop k').map (eAt vs)) ((here+1) / 2) (Q+1))
              case measure=>omega
              case rel=>exact⟨k',r',up,Q+1,z5,(here+1) / 2,base',c',v',out++[(true,Q)],F5,D5,v5,g5,rfl,rfl,rfl,rfl,HZ3,hkr',jR _,HSh',(HMa.out _).app HA5.out K7 G7 A7,H2⟩
             ·have hl:(1:Int)=leftOf here above:=by unfold leftOf; rw[if_neg h4]
              have hG:=hdn.2 hev 1 hl
              have hm:=hms2 _ (.inr ⟨hev,rfl⟩)
              have hzz:=HZ2 1 hl
              rw[← hl] at hm
              have H2:Hid (G2 vs P l (ptv vs l) ds k' ((here - 1) / 2) up (Q+1) (out++[(false,Q)]) v5):=hG
              have HZ3:Hid ((here - 1) / 2≠0→z5=(up:Nat)):=hzz
              have htm3:¬ ((here+2*above).tmod 4+4).tmod 4=3:=by rw[htm];exact h4
              have htm4:(((here+2*above).tmod 4+4).tmod 4==3)=false:=by simpa using htm3
              have hd2:(here - 1).tdiv 2=(here - 1) / 2:=tdiv2_even (by omega)
              have hw5:IntKind.i64.wrap (here - 1)=here - 1:=IntWalk.i64_in _ (by omega)
              have hwd:IntKind.i64.wrap ((here - 1) / 2)=(here - 1) / 2:=IntWalk.i64_in _ (by omega)
              clear hdn hms2 hznc htm HZ2 hl hG hzz
              go_wp2_with (at_builtin; go_loud (refine app_T1 rfl _ _ rfl u11 (pl v5 out) rfl (HOut.out _) wc.heap.size (false,a1) rfl (jD _ _) hol ?_);intro v' w7 K7 G7 N7 A7)
              go_roundg (sumMeas (cAt vs l) ((ds.drop k').map (eAt vs)) ((here - 1) / 2) (Q+1))
              case measure=>omega
              case rel=>exact⟨k',r',up,Q+1,z5,(here - 1) / 2,base',c',v',out++[(false,Q)],F5,D5,v5,g5,rfl,rfl,rfl,rfl,HZ3,hkr',jR _,HSh',(HMa.out _).app HA5.out K7 G7 A7,H2⟩
end
end Sr
