/- Texts of this claim, joined: RWd, Step, RApp, RAt, SortRow, SortA. -/
import Derived.Test.YtabafgphmbdpgaaGreatDoorTd1
import Derived.Test.YtabafgphmbdpgaaGreatDoorTd3
import Derived.Deep.QuietTactic
import Derived.BigQuiet
import Derived.Lib.Hide
import Derived.Deep.RegionLaw
import Derived.Deep.RegionHeld3
import Derived.Deep.RegionHeld2
import Derived.Deep.RegionHeldLaw
import Derived.WalkKit
import Derived.Sort.AssemblyPlain
import Derived.RowKit3
import Derived.Test.YtabafgphmbdpgaaGreatDoorProg
import Derived.StillTailTactics
import Derived.Deep.LoopGhost
import Derived.BigRegion
set_option maxHeartbeats 8000000
set_option maxRecDepth 100000
namespace Sr
open Go Go.Proofs Go.RowKit Go.Maps Go.WideMaps
section
theorem info139:(Tryz.prog.info? 139).map (fun i=>(i.zero,i.size,i.bytes))=some (some (.agg #[.bool false,.int .i64 0]),2,16):=by kernel_rfl
theorem info137:(Tryz.prog.info? 137).map (fun i=>(i.zero,i.size,i.bytes))=some (some (.slice none 0 0),1,24):=by kernel_rfl
theorem un137:Tryz.prog.underlying 137=some (.slice 139):=by kernel_rfl
theorem un103:Tryz.prog.underlying 103=some (.slice 137):=by kernel_rfl
def RRow (W:World)(v:Value)(l:List PT): Prop:=W.ownsRow 0 139 2 v l.length (tcells l)
variable {T:TypeId} {v fv':Value} {l:List PT} {b n:Nat} {fl':List Value} {vs':List Int}
theorem row2_cell {W:World}(h:W.ownsRow 0 T 2 v l.length (tcells l)): ∃ a c,v=.slice a l.length c∧∀ k t,l[k]? = some t→∃ g,a=some ⟨g,0,none⟩∧W.cell? ⟨g,k*2,none⟩=some (.bool t.1)∧W.cell? ⟨g,k*2+1,none⟩=some (.int .i64 (t.2:Nat)):=by
 obtain⟨h1,⟨rfl,h2⟩ | ⟨g,cap,cur,rfl,_,h4,h5,h6,h7,h8⟩⟩:=h
 ·have:l=[]:=List.length_eq_zero_iff.1 h2
  subst this
  exact⟨_,_,rfl,fun k t ht=>by simp at ht⟩
 ·refine⟨_,_,rfl,fun k t ht=>⟨g,rfl,?_⟩⟩
  obtain⟨d0,d1⟩:=qG ht
  have hk:=(jL ht).1
  rw[← h8,List.getElem?_take_of_lt (by omega),Array.getElem?_toList,← jB h4] at d0
  rw[← h8,List.getElem?_take_of_lt (by omega),Array.getElem?_toList,← jB h4] at d1
  exact⟨d0,d1⟩
theorem RRow.get {W:World}(h:RRow W v l): ∃ a c,v=.slice a l.length c∧∀ k t,l[k]? = some t→∃ g,a=some ⟨g,0,none⟩∧W.cell? ⟨g,k*2,none⟩=some (.bool t.1)∧W.cell? ⟨g,k*2+1,none⟩=some (.int .i64 (t.2:Nat)):=row2_cell h
def Sml (v:Int): Prop:=0≤v∧v≤4096
structure RW (C:List Int)(W:World)(p:Nat)(fv:Value)(fl:List Value)(vs:List Int): Prop where
 wv:WV vs
 obj:W.heap[p]? = some (.cells #[fv] 105 (0,0))
 forms:W.ownsRow 0 137 1 fv vs.length fl
 rows:∀ (i:Nat) (x:Int),vs[i]? = some x→∃ v,fl[i]? = some v∧RRow W v (pf vs x)
 cov:∀ v∈vs,v∈C∨Sml v
 bnd:C.length≤5000000000000
def rF (p:Nat)(fv:Value): List Nat:=p::fv.ownBlock.toList
theorem nodup_int_le:∀ (a b:List Int),a.Nodup→(∀ x∈a,x∈b)→a.length≤b.length
 | [],_,_,_=>by simp
 | x::a,b,h,hs=>by
   obtain⟨h1,h2⟩:=List.nodup_cons.1 h
   have hx:=hs x (by simp)
   have:=nodup_int_le a (b.erase x) h2 (fun y hy=>by
    refine (List.mem_erase_of_ne (fun e=>by subst e; exact h1 hy)).2 (hs y (List.mem_cons_of_mem _ hy)))
   rw[List.length_erase_of_mem hx] at this
   have:=List.length_pos_of_mem hx
   simp only[List.length_cons];omega
section
variable {C:List Int} {W W':World} {p:Nat} {fv:Value} {fl:List Value} {vs:List Int}
theorem RW.vlen (h:RW C W p fv fl vs): vs.length≤5000000004097:=by
 have:=nodup_int_le vs (C++(List.range 4097).map (fun (n:Nat)=>(n:Int))) h.wv.nodup (fun v hv=>by
  rcases h.cov v hv with h1 | ⟨h1,h2⟩
  ·exact List.mem_append.2 (.inl h1)
  ·exact List.mem_append.2 (.inr (List.mem_map.2 ⟨v.toNat,List.mem_range.2 (by omega),by omega⟩)))
 simp at this
 have:=h.bnd; omega
theorem RW.c0 (h:RW C W p fv fl vs): W.cell? ⟨p,0,none⟩=some fv:=by rw[jB h.obj];rfl
theorem RW.lt (h:RW C W p fv fl vs): p<W.heap.size:=(jA h.obj).1
theorem fr_type {c:Array Value}{z:Nat×Nat}(h:RW C W p fv fl vs)(hf:Fr (rF p fv) W W')(hb:W.heap[b]? = some (.cells c T z))(h1:T≠105)(h2:T≠137): W'.heap[b]? = some (.cells c T z):=by
 refine (hf.block b (jA hb).1 (fun hm=>?_)).trans hb
 rcases List.mem_cons.1 hm with rfl | hm
 ·exact jI h.obj hb (Ne.symm h1) rfl
 ·have hm:fv.ownBlock=some b:=by simpa using hm
  obtain⟨c',hc⟩:=jO h.forms hm
  exact jI hc hb (Ne.symm h2) rfl
theorem row_fr {s:Nat}{xs:List Value}(h:RW C W p fv fl vs)(hf:Fr (rF p fv) W W')(hb:W.ownsRow 0 T s v n xs)(h1:T≠105)(h2:T≠137): W'.ownsRow 0 T s v n xs :=
 jJ hb (fun b hbo=>by
  obtain⟨c,hc⟩:=jO hb hbo
  rw[fr_type h hf hc h1 h2,hc])
theorem RRow.fr (hb:RRow W v l)(h:RW C W p fv fl vs)(hf:Fr (rF p fv) W W'): RRow W' v l:=row_fr h hf hb (by decide) (by decide)
def rB (p:Nat)(fv:Value)(fl:List Value): List Nat:=p::(fv.ownBlock.toList++fl.flatMap fun v=>v.ownBlock.toList)
theorem yK:b∈rB p fv fl↔b=p∨fv.ownBlock=some b∨∃ v∈fl,v.ownBlock=some b:=by
 unfold rB
 simp only[List.mem_cons,List.mem_append,Option.mem_toList,List.mem_flatMap]
theorem RW.fl_len (h:RW C W p fv fl vs): fl.length=vs.length:=by have:=h.forms.1; omega
theorem RW.row_of (h:RW C W p fv fl vs)(hv:v∈fl): ∃ l,RRow W v l:=by
 obtain⟨i,hi,hiv⟩:=List.getElem_of_mem hv
 have hl:=h.fl_len
 obtain⟨u,k1,k2⟩:=h.rows i _ (jG (by omega))
 rw[jG hi,hiv] at k1; cases k1
 exact⟨_,k2⟩
theorem RW.btype (h:RW C W p fv fl vs)(hb:b∈rB p fv fl): ∃ c T,W.heap[b]? = some (.cells c T (0,0))∧(T=105∨T=137∨T=139):=by
 rcases yK.1 hb with rfl | hb | ⟨v,hv,hb⟩
 ·exact⟨_,_,h.obj,.inl rfl⟩
 ·obtain⟨c,hc⟩:=jO h.forms hb; exact⟨c,_,hc,.inr (.inl rfl)⟩
 ·obtain⟨l,hl⟩:=h.row_of hv
  obtain⟨c,hc⟩:=jO hl hb
  exact⟨c,_,hc,.inr (.inr rfl)⟩
theorem RW.blt (h:RW C W p fv fl vs): ∀ b∈rB p fv fl,b<W.heap.size:=fun b hb=>by
 obtain⟨c,T,hc,_⟩:=h.btype hb
 exact (jA hc).1
theorem RW.kept (h:RW C W p fv fl vs)(hb:∀ b∈rB p fv fl,W'.heap[b]? = W.heap[b]?): RW C W' p fv fl vs where
 wv:=h.wv
 obj:=(hb p (yK.2 (.inl rfl))).trans h.obj
 forms:=jJ h.forms (fun b hbo=>hb b (yK.2 (.inr (.inl hbo))))
 rows:=fun i x hi=>by
  obtain⟨v,h1,h2⟩:=h.rows i x hi
  exact⟨v,h1,jJ h2 (fun b hbo=>hb b (yK.2 (.inr (.inr ⟨v,jM h1,hbo⟩))))⟩
 cov:=h.cov
 bnd:=h.bnd
theorem RW.below (h:RW C W p fv fl vs)(hb:Below W.heap.size W W'): RW C W' p fv fl vs:=h.kept fun b hb'=>hb.block b (h.blt b hb')
theorem RW.alloc (h:RW C W p fv fl vs)(o:Obj): RW C (W.alloc o) p fv fl vs:=h.below ((Below.refl _ _).alloc (jR _) o)
theorem RW.drew (h:RW C W p fv fl vs): RW C W.drew p fv fl vs:=h.kept fun _ _=>rfl
theorem RW.drewN (h:RW C W p fv fl vs)(n:Nat): RW C (W.drewN n) p fv fl vs:=h.kept fun _ _=>rfl
theorem RW.setCell (h:RW C W p fv fl vs){a:Addr}(ha:a.block∉rB p fv fl)(v:Value): RW C (W.setCell a v) p fv fl vs:=h.kept fun b hb=>jS _ _ _ _ (by rintro rfl; exact ha hb)
theorem RW.other (h:RW C W p fv fl vs){c:Array Value}{z:Nat×Nat}(ha:W.heap[b]? = some (.cells c T z))(h1:T≠105)(h2:T≠137)(h3:T≠139): b∉rB p fv fl:=fun hb=>by
 obtain⟨c',T',hc,hT⟩:=h.btype hb
 rw[ha] at hc; cases hc
 rcases hT with h | h | h
 ·exact h1 h
 ·exact h2 h
 ·exact h3 h
theorem RW.weaken (h:RW C W p fv fl vs){C':List Int}(hc:∀ v∈C,v∈C'∨Sml v)(hb:C'.length≤5000000000000): RW C' W p fv fl vs where
 wv:=h.wv
 obj:=h.obj
 forms:=h.forms
 rows:=h.rows
 cov:=fun v hv=>(h.cov v hv).elim (fun h1=>hc v h1) .inr
 bnd:=hb
theorem RW.formAt (h:RW C W p fv fl vs): ∃ g cap,fv=.slice (some ⟨g,0,none⟩) vs.length cap∧∀ (i:Nat) (x:Int),vs[i]? = some x→∃ v,fl[i]? = some v∧W.cell? ⟨g,i,none⟩=some v∧RRow W v (pf vs x):=by
 have hp:0<vs.length:=(jL h.wv.zero).1
 obtain⟨h1,⟨h2,h3⟩ | ⟨g,cap,cur,he,_,h4,h5,h6,h7,h8⟩⟩:=h.forms
 ·omega
 ·refine⟨g,cap,he,fun i x hi=>?_⟩
  obtain⟨v,k1,k2⟩:=h.rows i x hi
  have hi':=(jL hi).1
  refine⟨v,k1,?_,k2⟩
  rw[← h8,List.getElem?_take_of_lt (by omega),Array.getElem?_toList,← jB h4] at k1
  exact k1
structure RPut (C:List Int)(W W':World)(p:Nat)(fv fv':Value)(fl fl':List Value)(vs vs':List Int): Prop where
 rw:RW C W' p fv' fl' vs'
 ext:vs <+: vs'
 fr:Fr (rF p fv) W W'
 fvb:∀ b,fv'.ownBlock=some b→fv.ownBlock=some b∨W.heap.size≤b
 flb:∀ v∈fl',v∈fl∨∀ b,v.ownBlock=some b→W.heap.size≤b
theorem RPut.refl (h:RW C W p fv fl vs): RPut C W W p fv fv fl fl vs vs:=⟨h,List.prefix_refl _,Fr.refl _ _,fun _ h=>.inl h,fun _ h=>.inl h⟩
theorem RPut.pre {W0:World}{fv':Value}{fl':List Value}{vs':List Int}(h0:Below W0.heap.size W0 W)(h:RPut C W W' p fv fv' fl fl' vs vs'): RPut C W0 W' p fv fv' fl fl' vs vs' :=
 ⟨h.rw,h.ext,Fr.pre (Fr.of_below h0) h.fr,fun b hb=>(h.fvb b hb).imp id (fun k=>Nat.le_trans h0.size k),fun v hv=>(h.flb v hv).imp id (fun k b hb=>Nat.le_trans h0.size (k b hb))⟩
theorem rF_sub (h:∀ b,fv'.ownBlock=some b→fv.ownBlock=some b∨n≤b): ∀ b∈rF p fv',b∈rF p fv∨n≤b:=fun b hb=>by
 rcases List.mem_cons.1 hb with rfl | hb
 ·exact .inl (List.mem_cons_self ..)
 ·rcases h b (by simpa using hb) with h | h
  ·exact .inl (List.mem_cons_of_mem _ (by simpa using h))
  ·exact .inr h
theorem RPut.trans {W2:World}{fv1 fv2:Value}{fl1 fl2:List Value}{vs1 vs2:List Int}(h:RPut C W W' p fv fv1 fl fl1 vs vs1)(k:RPut C W' W2 p fv1 fv2 fl1 fl2 vs1 vs2): RPut C W W2 p fv fv2 fl fl2 vs vs2:=by
 refine⟨k.rw,h.ext.trans k.ext,?_,fun b hb=>?_,fun v hv=>?_⟩
 ·exact (FE.trans (F:=rF p fv) (F1:=rF p fv1) (F2:=rF p fv1) ⟨h.fr,rF_sub h.fvb⟩ ⟨k.fr,fun b hb=>.inl hb⟩).fr
 ·rcases k.fvb b hb with h1 | h1
  ·exact h.fvb b h1
  ·exact .inr (Nat.le_trans h.fr.size h1)
 ·rcases k.flb v hv with h1 | h1
  ·exact h.flb v h1
  ·exact .inr (fun b hb=>Nat.le_trans h.fr.size (h1 b hb))
theorem RPut.post {W2:World}(h:RPut C W W' p fv fv' fl fl' vs vs')(k:Below W'.heap.size W' W2): RPut C W W2 p fv fv' fl fl' vs vs' :=
 h.trans ((RPut.refl (h.rw.below k)).pre k)
theorem RPut.notin (h:RPut C W W' p fv fv' fl fl' vs vs')(hb:b<W.heap.size)(hn:b∉rB p fv fl): b∉rB p fv' fl':=fun hm=>by
 rcases yK.1 hm with rfl | hm | ⟨v,hv,hm⟩
 ·exact hn (yK.2 (.inl rfl))
 ·rcases h.fvb b hm with k | k
  ·exact hn (yK.2 (.inr (.inl k)))
  ·omega
 ·rcases h.flb v hv with k | k
  ·exact hn (yK.2 (.inr (.inr ⟨v,k,hm⟩)))
  ·have:=k b hm; omega
theorem RPut.below (h:RPut C W W' p fv fv' fl fl' vs vs')(hn:∀ b∈rF p fv,n≤b)(hs:n≤W.heap.size): Below n W W' :=
 ⟨h.fr.os,h.fr.tape,h.fr.output,h.fr.size,fun b hb=>h.fr.block b (by omega) (fun hm=>by have:=hn b hm; omega)⟩
theorem qn {W W':World}(h:Below W.heap.size W W'){a:Addr}(hc:W.cell? a=some v): W'.cell? a=some v:=by
 have hl:a.block<W.heap.size:=by
  unfold World.cell? at hc; split at hc
  ·rename_i h1; exact (jA h1).1
  ·cases hc
 rw[World.cell?_of_block (h.block _ hl)];exact hc
theorem jN (W:World)(n:Nat): Below W.heap.size W (W.drewN n):=⟨rfl,rfl,rfl,jR _,fun _ _=>rfl⟩
theorem fr_grown {w1 w2:World}{o:Obj}{g:Nat}(h:(w1.alloc o).grownBy w2 (some g)): Fr [g] w1 w2 :=
 ⟨h.os,h.tape,h.output,by have:=h.size; simp at this; omega,fun b hb hn=>(h.block b (by simp; omega) (fun e=>hn (by cases e; simp))).trans (jE _ _ hb)⟩
theorem RW.push {g n cap g1 N c1 g2 c2:Nat}{x:Int}{w1 w2:World}(h:RW C W p (.slice (some ⟨g,0,none⟩) n cap) fl vs)(hn:x∉vs)(hx:∀ e∈exps x,(e:Int)∈vs)(hc:x∈C∨Sml x) 
 (B1:Below W.heap.size W w1) (R1:RRow w1 (.slice (some ⟨g1,0,none⟩) N c1) (pf vs x)) (O1:W.heap.size≤g1)
 (I2:w2.ownsRow 0 137 1 (.slice (some ⟨g2,0,none⟩) (vs.length+1) c2) (vs.length+1) (fl++[.slice (some ⟨g1,0,none⟩) N c1])) (F2:Fr [g] w1 w2) (A2:g=g2∨W.heap.size≤g2) :
 w2.cell? ⟨p,0,none⟩=some (.slice (some ⟨g,0,none⟩) n cap)∧w2.frozen? ⟨p,0,none⟩=false ∧
  RPut C W (w2.setCell ⟨p,0,none⟩ (.slice (some ⟨g2,0,none⟩) (vs.length+1) c2)) p (.slice (some ⟨g,0,none⟩) n cap) (.slice (some ⟨g2,0,none⟩) (vs.length+1) c2) fl (fl++[.slice (some ⟨g1,0,none⟩) N c1]) vs (vs++[x]):=by
 have hpl:=h.lt
 have hgt:∃ c,W.heap[g]? = some (.cells c 137 (0,0)):=jO h.forms rfl
 obtain⟨gc,hgc⟩:=hgt
 have hpg:p≠g:=jI h.obj hgc (by decide)
 have e1:w2.heap[p]? = some (.cells #[.slice (some ⟨g,0,none⟩) n cap] 105 (0,0)):=(F2.block p (Nat.lt_of_lt_of_le hpl B1.size) (by simpa using hpg)).trans ((B1.block p hpl).trans h.obj)
 have e2:=heap_setCell_same w2 p 0 _ 105 (.slice (some ⟨g2,0,none⟩) (vs.length+1) c2) e1
 have old:∀ b,b<W.heap.size→b≠p→b≠g→(w2.setCell ⟨p,0,none⟩ (.slice (some ⟨g2,0,none⟩) (vs.length+1) c2)).heap[b]? = W.heap[b]?:=fun b hb h1 h2 =>
  (jS _ _ _ _ (by exact h1)).trans ((F2.block b (Nat.lt_of_lt_of_le hb B1.size) (by simpa using h2)).trans (B1.block b hb))
 have hfl:=h.fl_len
 have hwv:=h.wv.push hn hx
 have hpre:vs <+: vs++[x]:=List.prefix_append _ _
 have hsz:W.heap.size≤(w2.setCell ⟨p,0,none⟩ (.slice (some ⟨g2,0,none⟩) (vs.length+1) c2)).heap.size:=by
  have:=B1.size; have:=F2.size; simp; omega
 refine⟨by rw[jB e1];rfl,jF e1 0,⟨⟨hwv,e2,?_,?_,?_,h.bnd⟩,hpre,⟨?_,?_,?_,hsz,?_⟩,?_,?_⟩⟩
 ·rw[List.length_append]
  exact jJ I2 (fun b hb=>jS _ _ _ _ (by
   show b≠p
   obtain⟨c,hc⟩:=jO I2 hb
   exact jI hc e1 (by decide)))
 ·intro i y hi
  rcases Nat.lt_or_ge i vs.length with hlt | hge
  ·rw[List.getElem?_append_left hlt] at hi
   obtain⟨v,k1,k2⟩:=h.rows i y hi
   refine⟨v,by rw[List.getElem?_append_left (by omega)];exact k1,?_⟩
   rw[pf_ext hpre h.wv (fun e he=>h.wv.mem_exps (jM hi) he)]
   exact jJ k2 (fun b hb=>by
    obtain⟨c,hc⟩:=jO k2 hb
    exact old b (jA hc).1 (jI hc h.obj (by decide)) (jI hc hgc (by decide)))
  ·rw[List.getElem?_append_right hge] at hi
   obtain⟨h0,h1⟩:=jL hi
   have hi0:i=vs.length:=by simp at h0; omega
   simp[hi0] at h1
   subst h1
   refine⟨_,by rw[List.getElem?_append_right (by omega),hfl,hi0,Nat.sub_self];rfl,?_⟩
   rw[pf_ext hpre h.wv hx]
   exact jJ R1 (fun b hb=>by
    cases hb
    obtain⟨c,hc⟩:=jO R1 rfl
    have hlt:=(jA hc).1
    have:=(jA hgc).1
    exact (jS _ _ _ _ (by show g1≠p; omega)).trans (F2.block g1 hlt (by simp; omega)))
 ·intro v hv
  rcases List.mem_append.1 hv with hv | hv
  ·exact h.cov v hv
  ·rw[List.mem_singleton] at hv; subst hv; exact hc
 ·exact F2.os.trans B1.os
 ·exact F2.tape.trans B1.tape
 ·exact F2.output.trans B1.output
 ·intro b hb hnb
  exact old b hb (fun e=>hnb (by subst e; exact List.mem_cons_self ..)) (fun e=>hnb (by subst e; unfold rF Value.ownBlock; simp))
 ·intro b hb
  cases hb
  rcases A2 with rfl | A2
  ·exact .inl rfl
  ·exact .inr A2
 ·intro v hv
  rcases List.mem_append.1 hv with hv | hv
  ·exact .inl hv
  ·rw[List.mem_singleton] at hv; subst hv
   right; intro b hb; cases hb; exact O1
end
end
section
variable {ops:Array Oper} {o:Oper} {a:Act} {Q:Exit→Act→World→Prop} {K:Act→World→Prop} {W:World} {E:Prop}
theorem step_I1 (hgd:o.guard=none)(s x:Operand)(ho:o.op=.call { callee:=.builtin .append,args:=#[s,x],argTypes:=#[80,80] }) 
 (v:Value) (l:List Nat) (hs:a.eval s=v) (hown:IRow W v l) (B:Nat) (t:Nat) (hx:a.eval x=.slice (some ⟨B,0,none⟩) 1 1)
 (hB:W.heap[B]? = some (.cells #[.int .i64 (t:Nat)] 3 (0,0))) (hb:l.length+1≤1099511627776) (H:Nat) (hH:W.heap.size=H)
 (h:∀ g cap w',IRow w' (.slice (some ⟨g,0,none⟩) (l.length+1) cap) (l++[t])→W.grownBy w' v.ownBlock→(v.ownBlock=some g∨g=H)→g<w'.heap.size→K (a.put o.dst (.slice (some ⟨g,0,none⟩) (l.length+1) cap)) w') :
 if Region.wanted o (yielded ops a.tmps)=true then Oper.wp Tryz.prog o a W K Q else E:=by
 obtain⟨i,hi,hz0,hz1,hz2⟩:=info_parts info3
 refine step_append_lies W hgd s x 80 ho 0 3 i _ 1 8 un80 hi hz0 hz1 hz2 rfl (by decide) v l.length _ hs hown ⟨B,0,none⟩ 1 1 [.int .i64 (t:Nat)] hx rfl (fun j u hu=>World.news_of_block hB j u hu) (by simp; rfl) (by omega) (by simp only[maxLen];omega) (by omega) (Nat.zero_le _) H hH ?_
 intro g cap w' k1 k2 k3 k4
 refine h g cap w' ?_ k2 k3 k4
 unfold IRow
 rw[List.length_append,List.map_append];exact k1
theorem step_F1 (hgd:o.guard=none)(s x:Operand)(ho:o.op=.call { callee:=.builtin .append,args:=#[s,x],argTypes:=#[120,120] }) 
 (v:Value) (n:Nat) (l:List Value) (hs:a.eval s=v) (hown:W.ownsRow 0 111 1 v n l) (B:Nat) (t:Value) (h1:t.oneCell'=true) (hx:a.eval x=.slice (some ⟨B,0,none⟩) 1 1)
 (hB:W.heap[B]? = some (.cells #[t] 111 (0,0))) (hb:n+1≤1099511627776) (H:Nat) (hH:W.heap.size=H)
 (h:∀ g cap w',w'.ownsRow 0 111 1 (.slice (some ⟨g,0,none⟩) (n+1) cap) (n+1) (l++[t])→W.grownBy w' v.ownBlock→(v.ownBlock=some g∨g=H)→g<w'.heap.size→K (a.put o.dst (.slice (some ⟨g,0,none⟩) (n+1) cap)) w') :
 if Region.wanted o (yielded ops a.tmps)=true then Oper.wp Tryz.prog o a W K Q else E:=by
 obtain⟨i,hi,hz0,hz1,hz2⟩:=info_parts info111
 refine step_append_lies W hgd s x 120 ho 0 111 i _ 1 24 un120 hi hz0 hz1 hz2 rfl (by decide) v n _ hs hown ⟨B,0,none⟩ 1 1 [t] hx rfl (fun j u hu=>World.news_of_block hB j u hu) (by simpa using h1) (by omega) (by simp only[maxLen];omega) (by omega) (Nat.zero_le _) H hH ?_
 intro g cap w' k1 k2 k3 k4
 exact h g cap w' k1 k2 k3 k4
theorem app_I1L {rest:List Oper}(hgd:o.guard=none)(s x:Operand)(ho:o.op=.call { callee:=.builtin .append,args:=#[s,x],argTypes:=#[80,80] }) 
 (v:Value) (l:List Nat) (hs:a.eval s=v) (hown:IRow W v l) (B:Nat) (t:Nat) (hx:a.eval x=.slice (some ⟨B,0,none⟩) 1 1)
 (hB:W.heap[B]? = some (.cells #[.int .i64 (t:Nat)] 3 (0,0))) (hb:l.length+1≤1099511627776) (H:Nat) (hH:W.heap.size=H)
 (h:∀ g cap w',IRow w' (.slice (some ⟨g,0,none⟩) (l.length+1) cap) (l++[t])→W.grownBy w' v.ownBlock→(v.ownBlock=some g∨g=H)→g<w'.heap.size→wpList Tryz.prog ops Q rest (a.put o.dst (.slice (some ⟨g,0,none⟩) (l.length+1) cap)) w') :
 wpList Tryz.prog ops Q (o::rest) a W:=by
 obtain⟨i,hi,hz0,hz1,hz2⟩:=info_parts info3
 refine wpList_append_lies W hgd s x 80 ho 0 3 i _ 1 8 un80 hi hz0 hz1 hz2 rfl (by decide) v l.length _ hs hown ⟨B,0,none⟩ 1 1 [.int .i64 (t:Nat)] hx rfl (fun j u hu=>World.news_of_block hB j u hu) (by simp; rfl) (by omega) (by simp only[maxLen];omega) (by omega) (Nat.zero_le _) H hH ?_
 intro g cap w' k1 k2 k3 k4
 refine h g cap w' ?_ k2 k3 k4
 unfold IRow
 rw[List.length_append,List.map_append];exact k1
end
structure Wt (C:List Nat)(W0 W:World)(p:Nat)(F:List Nat)(D:WD)(vs:List Int)(gk:List Nat)(m:Nat): Prop where
 wo:WO C W p F D vs gk m
 low:Below W0.heap.size W0 W
 hi:∀ b∈F,W0.heap.size≤b
theorem qL {F:List Nat}{W0 W W':World}(h:Below W0.heap.size W0 W)(hi:∀ b∈F,W0.heap.size≤b)(hf:Fr F W W'): Below W0.heap.size W0 W' :=
 ⟨hf.os.trans h.os,hf.tape.trans h.tape,hf.output.trans h.output,Nat.le_trans h.size hf.size,fun b hb=>(hf.block b (Nat.lt_of_lt_of_le hb h.size) (fun hm=>by have:=hi b hm; omega)).trans (h.block b hb)⟩
theorem IsN.get' {w:World}{v:Value}{x:Int}(h:IsN w v x): ∃ pv sv fl,∀ w',Below w.heap.size w w'→Rows w' v x pv sv fl:=by
 obtain⟨h0,⟨h1,rfl⟩ | ⟨h1,b,pv,sv,fl,rfl,h3⟩⟩:=h
 ·subst h1
  refine⟨.slice none 0 0,.slice none 0 0,[],fun w' _=>⟨self_none w',parts_none w',?_,?_,?_⟩⟩
  ·rw[yy];exact⟨rfl,.inl ⟨rfl,rfl⟩⟩
  ·intro i p hi; rw[yy] at hi; simp at hi
  ·have:atPl (Sr.parts 0) 0=[]:=by simp[atPl,j5]
   rw[this];exact⟨rfl,.inl ⟨rfl,rfl⟩⟩
 ·refine⟨pv,sv,fl,fun w' hb=>?_⟩
  have h2:=h3.below hb
  exact⟨self_some h2,parts_some h2,h2.parts,h2.rows,h2.self⟩
section
def RSrc (W:World)(x:Value)(l:List PT): Prop:=(l=[]∧x=.slice none 0 0)∨∃ ad c,x=.slice (some ad) l.length c∧∀ (j:Nat) (u:Value),(tcells l)[j]? = some u→W.cell? (ad.add j)=some u
theorem tcells_take (l:List PT)(k:Nat): (tcells l).take (k*2)=tcells (l.take k):=by
 induction k generalizing l with
 | zero=>simp[tcells]
 | succ k ih=>cases l with
   | nil=>simp[tcells]
   | cons t l =>
     have e:tcells (t::l)=.bool t.1::.int .i64 (t.2:Nat)::tcells l:=rfl
     rw[e,show (k+1)*2=k*2+1+1 by omega,List.take_succ_cons,List.take_succ_cons,ih,List.take_succ_cons];rfl
theorem tcells_drop (l:List PT)(k:Nat): (tcells l).drop (k*2)=tcells (l.drop k):=by
 induction k generalizing l with
 | zero=>simp
 | succ k ih=>cases l with
   | nil=>simp[tcells]
   | cons t l =>
     have e:tcells (t::l)=.bool t.1::.int .i64 (t.2:Nat)::tcells l:=rfl
     rw[e,show (k+1)*2=k*2+1+1 by omega,List.drop_succ_cons,List.drop_succ_cons,ih,List.drop_succ_cons]
variable {v:Value} {l:List PT}
theorem RRow.srcs {W:World}(h:RRow W v l): ∃ a c,v=.slice a l.length c∧l.length≤c∧c≤9223372036854775807∧RSrc W v l ∧
 (a=none→l=[]∧c=0)∧∀ g,a=some g→g.spot=none∧g.off=0∧(∀ k,k≤l.length→RSrc W (.slice a k c) (l.take k)) ∧
   ∀ k,k≤l.length→RSrc W (.slice (if c=k then some g else some ⟨g.block,k*2,none⟩) (l.length - k) (c - k)) (l.drop k):=by
 obtain⟨h1,⟨rfl,h2⟩ | ⟨g,cap,cur,rfl,_,h4,h5,h6,h7,h8⟩⟩:=h
 ·have:l=[]:=List.length_eq_zero_iff.1 h2
  subst this
  exact⟨_,_,rfl,by simp,by omega,.inl ⟨rfl,rfl⟩,fun _=>⟨rfl,rfl⟩,fun g h=>by cases h⟩
 ·have hget:∀ (j:Nat) (u:Value),(tcells l)[j]? = some u→W.cell? ⟨g,j,none⟩=some u:=fun j u hu=>by
   have hj:=(jL hu).1
   rw[← h8,List.getElem?_take_of_lt (by omega),Array.getElem?_toList,← jB h4] at hu
   exact hu
  refine⟨_,_,rfl,h5,by simpa [maxLen] using h6,.inr ⟨_,_,rfl,fun j u hu=>by rw[Addr.add_lit];simpa using hget j u hu⟩,(fun h=>by cases h),fun g' hg=>?_⟩
  cases hg
  refine⟨rfl,rfl,fun k hk=>.inr ⟨⟨g,0,none⟩,cap,?_,fun j u hu=>?_⟩,fun k hk=>.inr ?_⟩
  ·rw[List.length_take,Nat.min_eq_left hk]
  ·rw[← tcells_take] at hu
   have hj:j<k*2:=by have:=(jL hu).1; rw[List.length_take] at this; omega
   rw[List.getElem?_take_of_lt hj] at hu
   rw[Addr.add_lit];simpa using hget j u hu
  ·by_cases hc:cap=k
   ·have hkl:k=l.length:=by omega
    rw[if_pos hc]
    refine⟨⟨g,0,none⟩,cap - k,by rw[List.length_drop],fun j u hu=>?_⟩
    rw[List.drop_eq_nil_of_le (by omega)] at hu
    simp[tcells] at hu
   ·rw[if_neg hc]
    refine⟨⟨g,k*2,none⟩,cap - k,by rw[List.length_drop],fun j u hu=>?_⟩
    rw[← tcells_drop,List.getElem?_drop] at hu
    rw[Addr.add_lit];exact hget _ u hu
theorem RRow.src {W:World}(h:RRow W v l): RSrc W v l:=by
 obtain⟨a,c,rfl,_,_,h1,_⟩:=h.srcs; exact h1
theorem RSrc.kept {W W':World}{x:Value}(h:RSrc W x l)(hk:∀ ad n c,x=.slice (some ad) n c→W'.heap[ad.block]? = W.heap[ad.block]?): RSrc W' x l:=by
 rcases h with h | ⟨ad,c,rfl,h⟩
 ·exact .inl h
 ·refine .inr ⟨ad,c,rfl,fun j u hu=>?_⟩
  have hb:=hk ad _ _ rfl
  have h0:=h j u hu
  have hbl:(ad.add j).block=ad.block:=by unfold Addr.add; split <;>rfl
  unfold World.cell? at h0 ⊢
  rw[hbl] at h0 ⊢
  rw[hb];exact h0
theorem cell_lt' {W:World}{a:Addr}(h:W.cell? a=some v): a.block<W.heap.size:=by
 unfold World.cell? at h
 split at h
 ·rename_i h1; exact (jA h1).1
 ·cases h
theorem RSrc.below {W W':World}{x:Value}(h:RSrc W x l)(hk:Below W.heap.size W W'): RSrc W' x l:=by
 rcases h with h | ⟨ad,c,rfl,h⟩
 ·exact .inl h
 ·cases l with
  | nil=>exact .inr ⟨ad,c,rfl,fun j u hu=>by simp[tcells] at hu⟩
  | cons t l =>
    have h0:=cell_lt' (h 0 (.bool t.1) rfl)
    have hbl:(ad.add 0).block=ad.block:=by unfold Addr.add; split <;>rfl
    rw[hbl] at h0
    exact RSrc.kept (.inr ⟨ad,c,rfl,h⟩) (fun ad' n c' e=>by cases e; exact hk.block _ h0)
theorem run_app_R {W:World}(ty:TypeId)(hown:RRow W v l)(hv:v≠.slice none 0 0)(x:Value)(l2:List PT)(hx:RSrc W x l2)(hb:l.length+l2.length≤8000000000000)(H:Nat)(hH:W.heap.size=H):
 ∃ g cap w',(Builtin.append_ #[137,137] ty #[v,x]).run Tryz.prog W=.ok (.slice (some ⟨g,0,none⟩) (l.length+l2.length) cap) w'∧RRow w' (.slice (some ⟨g,0,none⟩) (l.length+l2.length) cap) (l++l2)∧W.grownBy w' v.ownBlock∧(v.ownBlock=some g∨g=H)∧g<w'.heap.size:=by
 obtain⟨i,hi,hz0,hz1,hz2⟩:=info_parts info139
 subst hH
 rcases hx with ⟨rfl,rfl⟩ | ⟨ad,c,rfl,hcl⟩
 ·have hown':=hown
  obtain⟨h1,⟨rfl,h2⟩ | ⟨g,cap,cur,rfl,_,h4,h5,h6,h7,h8⟩⟩:=hown
  ·exact absurd rfl hv
  ·refine⟨g,cap,W,?_,by simpa using hown',World.grownBy.refl _ _,.inl rfl,(jA h4).1⟩
   simp[Builtin.append_,run_underlying un137,Go.sizeOf,Go.typeInfo,hi,Builtin.lenOf,Builtin.firstCells,h5,storeCells]
 ·obtain⟨v',w',hr,k1,k2,k3,k4⟩:=run_append_own_at (P:=Tryz.prog) W 0 137 ty 139 i _ 2 16 un137 hi hz0 hz1 hz2 rfl (by decide) v l.length (tcells l) hown ad l2.length c (tcells l2) (tcells_len _) hcl (oneT _) (by simp only[maxLen];omega) (by omega) (Nat.zero_le _)
  obtain⟨k0,⟨rfl,k5⟩ | ⟨g,cap,cur,rfl,_,h4,h5,h6,h7,h8⟩⟩:=id k1
  ·exact absurd (k3.1 rfl).1 hv
  ·refine⟨g,cap,w',hr,?_,k2,?_,(jA h4).1⟩
   ·unfold RRow; rw[List.length_append,tcells_append];exact k1
   ·rcases k4 with k4 | k4
    ·exact .inl k4.symm
    ·right; simpa [Value.ownBlock] using k4
theorem RRow.nil {W:World}{b:Nat}(h:W.heap[b]? = some (.cells #[] 139 (0,0))): RRow W (.slice (some ⟨b,0,none⟩) 0 0) []:=⟨rfl,.inr ⟨b,0,_,rfl,Nat.zero_le _,h,jR _,by decide,rfl,rfl⟩⟩
theorem qO {a:Addr}{n c:Nat}: Value.slice (some a) n c≠.slice none 0 0:=fun e=>by cases e
section
variable {ops:Array Oper} {rest:List Oper} {o:Oper} {a:Act} {Q:Exit→Act→World→Prop} {K:Act→World→Prop} {W:World} {E:Prop}
theorem wp_app_R (s x:Operand)(ho:o.op=.call { callee:=.builtin .append,args:=#[s,x],argTypes:=#[137,137] }) 
 (v:Value) (l:List PT) (hs:a.eval s=v) (hown:RRow W v l) (hv:v≠.slice none 0 0) (xv:Value) (l2:List PT) (hx:a.eval x=xv) (hsrc:RSrc W xv l2) (n:Nat) (hn:l.length+l2.length=n) (L:List PT) (hL:l++l2=L) (hb:n≤8000000000000) (H:Nat) (hH:W.heap.size=H)
 (h:∀ g cap w',RRow w' (.slice (some ⟨g,0,none⟩) n cap) L→W.grownBy w' v.ownBlock→(v.ownBlock=some g∨g=H)→g<w'.heap.size→K (a.put o.dst (.slice (some ⟨g,0,none⟩) n cap)) w'):o.wp Tryz.prog a W K Q:=by
 subst hn hL
 obtain⟨g,cap,w',hr,h2,h3,h4,h5⟩:=run_app_R o.type hown hv xv l2 hsrc hb H hH
 unfold Oper.wp execOp
 simp only[ho,resolve,invoke,builtin,Sem.run_bind,Sem.run_pure,Result.andThen_ok,List.map_toArray,List.map_cons,List.map_nil,hs,hx,hr]
 exact h g cap w' h2 h3 h4 h5
theorem app_R (hgd:o.guard=none)(s x:Operand)(ho:o.op=.call { callee:=.builtin .append,args:=#[s,x],argTypes:=#[137,137] }) 
 (v:Value) (l:List PT) (hs:a.eval s=v) (hown:RRow W v l) (hv:v≠.slice none 0 0) (xv:Value) (l2:List PT) (hx:a.eval x=xv) (hsrc:RSrc W xv l2) (n:Nat) (hn:l.length+l2.length=n) (L:List PT) (hL:l++l2=L) (hb:n≤8000000000000) (H:Nat) (hH:W.heap.size=H)
 (h:∀ g cap w',RRow w' (.slice (some ⟨g,0,none⟩) n cap) L→W.grownBy w' v.ownBlock→(v.ownBlock=some g∨g=H)→g<w'.heap.size→wpList Tryz.prog ops Q rest (a.put o.dst (.slice (some ⟨g,0,none⟩) n cap)) w'):wpList Tryz.prog ops Q (o::rest) a W :=
 wpList_plain hgd fun _ hK=>wp_app_R s x ho v l hs hown hv xv l2 hx hsrc n hn L hL hb H hH fun g cap w' h2 h3 h4 h5=>hK _ _ (h g cap w' h2 h3 h4 h5)
theorem zj (hgd:o.guard=none)(s x:Operand)(ho:o.op=.call { callee:=.builtin .append,args:=#[s,x],argTypes:=#[137,137] }) 
 (v:Value) (l:List PT) (hs:a.eval s=v) (hown:RRow W v l) (hv:v≠.slice none 0 0) (xv:Value) (l2:List PT) (hx:a.eval x=xv) (hsrc:RSrc W xv l2) (n:Nat) (hn:l.length+l2.length=n) (L:List PT) (hL:l++l2=L) (hb:n≤8000000000000) (H:Nat) (hH:W.heap.size=H)
 (h:∀ g cap w',RRow w' (.slice (some ⟨g,0,none⟩) n cap) L→W.grownBy w' v.ownBlock→(v.ownBlock=some g∨g=H)→g<w'.heap.size→K (a.put o.dst (.slice (some ⟨g,0,none⟩) n cap)) w') :
 if Region.wanted o (yielded ops a.tmps)=true then Oper.wp Tryz.prog o a W K Q else E:=by
 rw[show Region.wanted o (yielded ops a.tmps)=true by simp[Region.wanted,hgd]]
 exact wp_app_R s x ho v l hs hown hv xv l2 hx hsrc n hn L hL hb H hH h
theorem step_RF (hgd:o.guard=none)(s x:Operand)(ho:o.op=.call { callee:=.builtin .append,args:=#[s,x],argTypes:=#[103,103] }) 
 (v:Value) (n:Nat) (l:List Value) (hs:a.eval s=v) (hown:W.ownsRow 0 137 1 v n l) (B:Nat) (t:Value) (h1:t.oneCell'=true) (hx:a.eval x=.slice (some ⟨B,0,none⟩) 1 1)
 (hB:W.heap[B]? = some (.cells #[t] 137 (0,0))) (hb:n+1≤5800000000000) (H:Nat) (hH:W.heap.size=H)
 (h:∀ g cap w',w'.ownsRow 0 137 1 (.slice (some ⟨g,0,none⟩) (n+1) cap) (n+1) (l++[t])→W.grownBy w' v.ownBlock→(v.ownBlock=some g∨g=H)→g<w'.heap.size→K (a.put o.dst (.slice (some ⟨g,0,none⟩) (n+1) cap)) w') :
 if Region.wanted o (yielded ops a.tmps)=true then Oper.wp Tryz.prog o a W K Q else E:=by
 obtain⟨i,hi,hz0,hz1,hz2⟩:=info_parts info137
 refine step_append_lies W hgd s x 103 ho 0 137 i _ 1 24 un103 hi hz0 hz1 hz2 rfl (by decide) v n _ hs hown ⟨B,0,none⟩ 1 1 [t] hx rfl (fun j u hu=>World.news_of_block hB j u hu) (by simpa using h1) (by omega) (by simp only[maxLen];omega) (by omega) (Nat.zero_le _) H hH ?_
 intro g cap w' k1 k2 k3 k4
 exact h g cap w' k1 k2 k3 k4
end
end
section
variable {W:World}
theorem j9 {W':World}{row:Option Nat}(h:W.grownBy W' row){n:Nat}(hr:∀ b,row=some b→n≤b)(hs:n≤W.heap.size): Below n W W' :=
 ⟨h.os,h.tape,h.output,h.size,fun k hk=>h.block k (by omega) (fun e=>by have:=hr k e.symm; omega)⟩
theorem y9 {v:Value}{l:List PT}(hl:RRow W v l){k:Nat}(hk:k<l.length)(hb:l.length≤5000000004097):
 Calls Tryz.prog 137 #[v,.int .i64 (k:Nat)] W fun e W'=>∃ v',e=.returned v'∧Hid (RRow W' v' (l.take k++l.drop (k+1)))∧Hid (Below W.heap.size W W')∧Hid (∀ b,v'.ownBlock=some b→W.heap.size≤b):=by
 obtain⟨a,c,rfl,hlc,hc,_,hnone,hsome⟩:=hl.srcs
 cases a with
 | none=>have:=(hnone rfl).1; subst this; simp at hk
 | some g =>
   obtain⟨hg1,hg2,htk,hdr⟩:=hsome g rfl
   obtain⟨gb,go,gs⟩:=g
   dsimp only at hg1 hg2
   subst hg1 hg2
   have T1:=jH (htk k (by omega))
   obtain⟨A,hA,hT2⟩:∃ A:Addr,(if c=k+1 then some (⟨gb,0,none⟩:Addr) else some ⟨gb,(k+1)*2,none⟩)=some A∧RSrc W (.slice (some A) (l.length - (k+1)) (c - (k+1))) (l.drop (k+1)):=by
    have h:=hdr (k+1) (by omega)
    by_cases hck:c=k+1
    ·rw[if_pos hck] at h ⊢;exact⟨_,rfl,h⟩
    ·rw[if_neg hck] at h ⊢;exact⟨_,rfl,h⟩
   have T2:=jH hT2
   clear hT2
   have hlen1:(l.take k).length=k:=by rw[List.length_take];omega
   have hlen2:(l.drop (k+1)).length=l.length - (k+1):=by rw[List.length_drop]
   clear htk hdr hnone hsome
   have k0:(0:Int)≤(k:Int):=by omega
   have kz:(k:Int)≤(c:Int):=by omega
   have kw:IntKind.i64.wrap ((k:Int)+1)=(k:Int)+1:=by rw[IntKind.wrap_i64];omega
   have kn:((k:Int)+1)≤(l.length:Int):=by omega
   have k1:(0:Int)≤(k:Int)+1:=by omega
   have HL:=jH hl
   clear hl
   have kc:k≤c:=by omega
   have kc1:k+1≤c:=by omega
   have kl1:k+1≤l.length:=by omega
   have hle:k+(l.length - (k+1))=l.length - 1:=by omega
   have hbn:k≤8000000000000:=by omega
   have hbm:l.length - 1≤8000000000000:=by omega
   go_enter Tryz.func137,Tryz.ntmps137
   go_wp2_with (at_builtin; go_loud (first
    | (refine app_R rfl _ _ rfl (.slice (some ⟨W.heap.size,0,none⟩) 0 0) [] rfl (RRow.nil (jD W _)) qO _ (l.take k) rfl (T1.out.below ((Below.refl _ _).alloc (jR _) _)) k ((Nat.zero_add _).trans hlen1) (l.take k) rfl hbn _ rfl ?_
       intro g1 c1 w1 R1 G1 A1 L1
       have B1:Hid (Below W.heap.size W w1):=by
        refine Below.trans ((Below.refl W.heap.size W).alloc (jR _) _) (j9 G1 (fun b hb=>?_) (by simp))
        cases hb; exact jR _
       have O1:Hid (W.heap.size≤g1):=by
        rcases A1 with h | h
        ·cases h; exact jR _
        ·show W.heap.size≤g1
         rw[h];simp
       have R1':=jH R1
       clear G1 A1 L1 R1)
    | (refine app_R rfl _ _ rfl (.slice (some ⟨g1,0,none⟩) k c1) (l.take k) rfl R1'.out qO _ (l.drop (k+1)) rfl (T2.out.below B1.out) (l.length - 1) (by rw[hlen1,hlen2,hle]) (l.take k++l.drop (k+1)) rfl hbm _ rfl ?_
       intro g2 c2 w2 R2 G2 A2 L2)))
   go_ret
   refine⟨_,rfl,R2,Below.trans B1.out (j9 G2 (fun b hb=>by cases hb; exact O1.out) B1.out.size),fun b hb=>?_⟩
   cases hb
   rcases A2 with h | h
   ·cases h; exact O1.out
   ·rw[h];exact B1.out.size
theorem yz {vs:List Int}{x:Int}(hx:∀ e∈exps x,(e:Int)∈vs): (pf vs x).length≤vs.length:=by
 have h1:(pf vs x).length=(exps x).length:=by simp[pf,exps]
 rw[h1]
 have:=jT (exps x) (vs.map Int.toNat) (exps_nodup x) (fun e he=>List.mem_map.2 ⟨(e:Int),hx e he,by simp⟩)
 rwa [List.length_map] at this
theorem yk {C:List Int}{p:Nat}{fv:Value}{fl:List Value}{vs:List Int}(H:RW C W p fv fl vs){v:Value}{x:Int}(hx:∀ e∈exps x,(e:Int)∈vs)(hl:RRow W v (pf vs x))(hc:x∈C∨Sml x):
 Calls Tryz.prog 115 #[.pointer (some ⟨p,0,none⟩),v] W fun e W'=>∃ fv' fl',e=.returned (.int .i64 ((putIn vs x).idxOf x:Nat))∧Hid (RPut C W W' p fv fv' fl fl' vs (putIn vs x)):=by
 have c0:=H.c0
 have hvl:=H.vlen
 have HH:=jH H
 have hwv:=H.wv
 obtain⟨g,cap,rfl,hrow⟩:=H.formAt
 obtain⟨va,vc,rfl,hs⟩:=hl.get
 have hll:(pf vs x).length≤vs.length:=yz hx
 obtain⟨N,hN⟩:∃ N,N=(pf vs x).length:=⟨_,rfl⟩
 rw[← hN] at hll
 have HL:=jH hl
 have Hs:=jH hs
 have Hrow:=jH hrow
 have Hwv:=jH hwv
 have HNl:=jH hN
 have Hx:=jH hx
 rw[← hN] at HL
 rw[← hN]
 clear H hrow hl hs hwv hx hN
 go_enter Tryz.func115,Tryz.ntmps115
 go_wp2_with fail
 go_loopg [5] vs.length (fun g1 vi wr=>∃ (k m:Nat),vi=.int .i64 k∧k≤vs.length∧vs.length - k≤g1∧wr=W.drewN m∧Hid (∀ i<k,vs[i]?≠some x))
 case atStart=>exact⟨0,0,rfl,by omega,by omega,rfl,fun i hi=>by omega⟩
 case round =>
  obtain⟨k,m,rfl,hk,hg,rfl,HN⟩:=hrel
  by_cases hkn:k<vs.length
  ·have hkz:(k:Int)<(vs.length:Int):=by omega
   have hk0:(0:Int)≤(k:Int):=Int.natCast_nonneg k
   have hkw:IntKind.i64.wrap ((k:Int)+1)=(k:Int)+1:=IntWalk.i64_in _ (by omega)
   obtain⟨y,hy⟩:∃ y,vs[k]? = some y:=⟨_,jG hkn⟩
   obtain⟨u,_,cu,hru⟩:=Hrow.out k y hy
   obtain⟨ua,uc,rfl,hsu⟩:=hru.get
   obtain⟨M,hM⟩:∃ M,M=(pf vs y).length:=⟨_,rfl⟩
   rw[← hM] at cu
   have Hy:=jH hy
   have HM:=jH hM
   have Hsu:=jH hsu
   clear hy hM hsu hru
   by_cases hMN:M=N
   ·subst hMN
    go_wp2_with fail
    go_loopg [7] M (fun g2 vj wq=>∃ (j m2:Nat),vj=.int .i64 j∧j≤M∧M - j≤g2∧wq=W.drewN m2∧Hid (∀ i<j,(pf vs y)[i]? = (pf vs x)[i]?))
    case atStart=>exact⟨0,_,rfl,by omega,by omega,rfl,fun i hi=>by omega⟩
    case round =>
     obtain⟨j,m2,rfl,hj,hg2,rfl,HE⟩:=hrel
     have hj0:(0:Int)≤(j:Int):=Int.natCast_nonneg j
     have hjw:IntKind.i64.wrap ((j:Int)+1)=(j:Int)+1:=IntWalk.i64_in _ (by omega)
     by_cases hjM:j<M
     ·have hjz:(j:Int)<(M:Int):=by omega
      obtain⟨⟨sx,ax⟩,hx⟩:∃ t,(pf vs x)[j]? = some t:=⟨_,jG (by rw[← HNl.out];exact hjM)⟩
      obtain⟨ga,rfl,cx0,cx1⟩:=Hs.out j _ hx
      obtain⟨⟨sy,ay⟩,hy⟩:∃ t,(pf vs y)[j]? = some t:=⟨_,jG (by rw[← HM.out];exact hjM)⟩
      obtain⟨gb,rfl,cy0,cy1⟩:=Hsu.out j _ hy
      dsimp only at cx0 cx1 cy0 cy1
      have HX:=jH hx
      have HY:=jH hy
      clear hx hy
      by_cases he:sx=sy∧ax=ay
      ·obtain⟨rfl,rfl⟩:=he
       have HE2:Hid (∀ i<j+1,(pf vs y)[i]? = (pf vs x)[i]?):=fun i hi=>if h:i=j then by rw[h,HX.out,HY.out] else HE.out i (by omega)
       clear HE
       go_wp2_with fail
       go_quiet (fail)
       go_wp2_with fail
       go_roundg (M - (j+1))
       case measure=>omega
       case rel=>exact⟨j+1,m2+nq,by go_num,by omega,by omega,rfl,HE2⟩
      ·have hz:sy=sx→¬ ((ay:Int)=(ax:Int)):=fun e1 e2=>he ⟨e1.symm,by omega⟩
       have HN2:Hid (∀ i<k+1,vs[i]?≠some x):=fun i hi=>if h:i=k then by
        rw[h,Hy.out]
        intro e
        cases e
        rw[HX.out] at HY
        have:=HY.out
        cases this
        exact he ⟨rfl,rfl⟩ else HN.out i (by omega)
       have hjn:¬ ((j:Int)=(M:Int)):=by omega
       have hjn1:decide ((j:Int)=(M:Int))=false:=by simpa using hjn
       have hjn2:((j:Int)==(M:Int))=false:=by simpa using hjn
       clear HE HN he
       by_cases hs:sy=sx
       ·subst hs
        have hz2:=hz rfl
        clear hz
        go_wp2_with fail
        go_quiet (fail)
        go_wp2_with fail
        go_roundg (vs.length - (k+1))
        case measure=>omega
        case rel=>exact⟨k+1,_,by go_num,by omega,by omega,rfl,HN2⟩
       ·clear hz
        revert hs
        cases sx <;>cases sy <;>intro hs <;>first | exact absurd rfl hs | skip
        all_goals
         go_wp2_with fail
         go_quiet (fail)
         go_wp2_with fail
         go_roundg (vs.length - (k+1))
         case measure=>omega
         case rel=>exact⟨k+1,_,by go_num,by omega,by omega,rfl,HN2⟩
     ·obtain rfl:j=M:=by omega
      have hex:Hid (vs[k]? = some x):=by
       show _=_
       rw[Hy.out]
       have:pf vs y=pf vs x:=by
        refine List.ext_getElem? fun i=>?_
        rcases Nat.lt_or_ge i j with h | h
        ·exact HE.out i h
        ·rw[List.getElem?_eq_none (by rw[← HM.out];exact h),List.getElem?_eq_none (by rw[← HNl.out];exact h)]
       rw[pf_inj Hwv.out (fun e he=>Hwv.out.mem_exps (jM Hy.out) he) Hx.out this]
      clear HE
      go_wp2_with fail
      go_quiet (fail)
      go_wp2_with fail
      go_ret
      have e1:=Hwv.out.idx_get hex.out
      have e2:putIn vs x=vs:=by unfold putIn; rw[if_pos (jM hex.out)]
      refine⟨.slice (some ⟨g,0,none⟩) vs.length cap,fl,?_,?_⟩
      ·rw[e2,e1];rfl
      ·rw[e2];exact (RPut.refl HH.out).post (jN _ _)
   ·have hm1:¬ ((M:Int)=(N:Int)):=by omega
    have hm2:decide ((M:Int)=(N:Int))=false:=by simpa using hm1
    have hm3:((M:Int)==(N:Int))=false:=by simpa using hm1
    have HN2:Hid (∀ i<k+1,vs[i]?≠some x):=fun i hi=>if h:i=k then by
     rw[h,Hy.out]
     intro e
     cases e
     exact hMN (HM.out.trans HNl.out.symm) else HN.out i (by omega)
    clear HN hMN
    go_wp2_with fail
    go_loopg [7] 0 (fun g2 vj wq=>∃ (m2:Nat),vj=.int .i64 0∧wq=W.drewN m2)
    case atStart=>exact⟨_,rfl,rfl⟩
    case round =>
     obtain⟨m2,rfl,rfl⟩:=hrel
     go_wp2_with fail
     go_quiet (fail)
     go_wp2_with fail
     go_roundg (vs.length - (k+1))
     case measure=>omega
     case rel=>exact⟨k+1,_,by go_num,by omega,by omega,rfl,HN2⟩
  ·have HN2:Hid (x∉vs):=fun hm=>by
    obtain⟨i,hi⟩:=List.getElem?_of_mem hm
    exact HN.out i (by have:=(jL hi).1; omega) hi
   obtain rfl:k=vs.length:=by omega
   have HF:Hid (W.ownsRow 0 137 1 (.slice (some ⟨g,0,none⟩) vs.length cap) vs.length fl):=HH.out.forms
   have hb1:N≤8000000000000:=by omega
   have hb2:vs.length+1≤5800000000000:=by omega
   have hw1:IntKind.i64.wrap (((vs.length+1:Nat):Int) - 1)=(vs.length:Int):=by rw[IntKind.wrap_i64];omega
   have hgl:g<W.heap.size:=jP HF.out rfl
   have lp:=HH.out.lt
   have c0a:∀ o n,((W.drewN n).alloc o).cell? ⟨p,0,none⟩=some (.slice (some ⟨g,0,none⟩) vs.length cap):=fun o n=>by rw[jB ((jE (W.drewN n) _ lp).trans HH.out.obj)];rfl
   clear HN Hs Hrow hg hk hkn
   go_wp2_with fail
   go_region_law (first
    | (refine zj rfl (.tmp 65) (.tmp 66) rfl (.slice (some ⟨_,0,none⟩) 0 0) [] rfl (RRow.nil (jD _ _)) qO _ (pf vs x) rfl (HL.out.src.below ⟨rfl,rfl,rfl,by simp,fun b hb=>jE _ _ hb⟩) N ((Nat.zero_add _).trans HNl.out.symm) (pf vs x) rfl hb1 _ rfl ?_; intro g1 c1 w1 R1 G1 A1 L1
       have B1:Hid (Below W.heap.size W w1):=by
        refine Below.trans (b:=(W.drewN _).alloc (.cells #[] 139)) ⟨rfl,rfl,rfl,by simp,fun b hb=>jE _ _ hb⟩ (j9 G1 (fun b hb=>?_) (by simp))
        cases hb; exact jR _
       have O1:Hid (W.heap.size≤g1):=by
        rcases A1 with h | h
        ·cases h; exact jR _
        ·show W.heap.size≤g1
         rw[h];simp
       have I1:Hid (w1.ownsRow 0 137 1 (.slice (some ⟨g,0,none⟩) vs.length cap) vs.length fl):=jK HF.out B1.out
       have R1':=jH R1
       have hp1:=(B1.out.block p lp).trans HH.out.obj
       have c1w:w1.cell? ⟨p,0,none⟩=some (.slice (some ⟨g,0,none⟩) vs.length cap):=by rw[jB hp1];rfl
       have c1a:∀ o,(w1.alloc o).cell? ⟨p,0,none⟩=some (.slice (some ⟨g,0,none⟩) vs.length cap):=fun o=>by rw[jB ((jE _ _ (jA hp1).1).trans hp1)];rfl
       clear hp1
       clear G1 A1 L1 R1)
    | (refine step_RF rfl (.tmp 64) (.tmp 68) rfl (.slice (some ⟨g,0,none⟩) vs.length cap) vs.length fl rfl (World.ownsRow.alloc I1.out _) _ (.slice (some ⟨g1,0,none⟩) N c1) rfl rfl (jD _ _) hb2 _ rfl ?_; intro g2 c2 w2 I2 G2 A2 L2
       have HP:=HH.out.push HN2.out Hx.out hc B1.out R1'.out O1.out I2 (fr_grown G2) (A2.imp (fun h=>by cases h; rfl) (fun h=>by rw[h];have:=B1.out.size; simp; omega))
       have c7:=HP.1
       have f7:=HP.2.1
       have HPut:=jH HP.2.2
       clear I2 G2 A2 L2 HP))
   all_goals
    go_wp2_with fail
    go_ret
    have e2:putIn vs x=vs++[x]:=by unfold putIn; rw[if_neg HN2.out]
    have e1:(vs++[x]).idxOf x=vs.length:=by rw[List.idxOf_append,if_neg HN2.out];simp
    refine⟨.slice (some ⟨g2,0,none⟩) (vs.length+1) c2,fl++[.slice (some ⟨g1,0,none⟩) N c1],?_,?_⟩
    ·rw[e2,e1];rfl
    ·rw[e2];exact HPut
end
end Sr
namespace Go
open Go.Sort Go.RowKit
structure SRow (P:Program)(g:FuncId)(fst cb:Array Value)(cf:Nat→Nat→Int)(blk off n:Nat)(Γ:Type)(K:Γ→Array Nat→World→Prop)(Out:Γ→Nat→Prop): Prop where
 size:∀ {γ d w},K γ d w→d.size=n
 cell:∀ {γ d w},K γ d w→∀ i,i<n→w.cell? ⟨blk,off+i,none⟩=some (.int .i64 (d[i]!:Nat))
 free:∀ {γ d w},K γ d w→∀ i,i<n→w.frozen? ⟨blk,off+i,none⟩=false
 swap:∀ {γ d w},K γ d w→∀ i j,i<n→j<n→K γ (swp d i j) ((w.setCell ⟨blk,off+i,none⟩ (.int .i64 (d[j]!:Nat))).setCell ⟨blk,off+j,none⟩ (.int .i64 (d[i]!:Nat)))
 drew:∀ {γ d w},K γ d w→K γ d w.drew
 cmp:∀ {γ d w},K γ d w→∀ i j,i<n→j<n→Calls P g (fst++(#[.int .i64 (d[i]!:Nat),.int .i64 (d[j]!:Nat)]++cb)) w fun e w' =>
  e=.returned (.int .i64 (cf d[i]! d[j]!))∧∃ γ',K γ' d w'∧w.heap.size≤w'.heap.size∧∀ c,Out γ c→c<w.heap.size→Out γ' c∧w'.heap[c]? = w.heap[c]?
 small:∀ x y,-2≤cf x y∧cf x y≤2
 lt:∀ {γ d w},K γ d w→blk<w.heap.size
 alloc:∀ {γ d w},K γ d w→∀ o,K γ d (w.alloc o)∧Out γ w.heap.size
 store:∀ {γ d w},K γ d w→∀ c,Out γ c→∀ v,K γ d (w.setCell ⟨c,0,none⟩ v)
 out:∀ {γ c},Out γ c→c≠blk
end Go
namespace Go
open Go.Sort Go.RowKit
variable {d:Array Nat} {w w':World}
section
variable {P:Program} {g:FuncId} {fst cb:Array Value} {cf:Nat→Nat→Int} {blk off n:Nat} {Γ:Type} {K:Γ→Array Nat→World→Prop} {Out:Γ→Nat→Prop}
def ltf (cf:Nat→Nat→Int)(x y:Nat): Bool:=decide (cf x y<0)
def SPost {Γ:Type}(K:Γ→Array Nat→World→Prop)(Out:Γ→Nat→Prop)(γ:Γ)(w:World)(d':Array Nat)(w':World): Prop :=
 ∃ γ',K γ' d' w'∧w.heap.size≤w'.heap.size∧∀ c,Out γ c→c<w.heap.size→Out γ' c∧w'.heap[c]? = w.heap[c]?
theorem SPost.refl {γ:Γ}(h:K γ d w): SPost K Out γ w d w:=⟨γ,h,Nat.le_refl _,fun _ ho _=>⟨ho,rfl⟩⟩
theorem SRow.pdrew (S:SRow P g fst cb cf blk off n Γ K Out){γ:Γ}(h:SPost K Out γ w d w'): SPost K Out γ w d w'.drew:=by
 obtain⟨γ',h1,h2,h3⟩:=h
 exact⟨γ',S.drew h1,h2,h3⟩
theorem SPost.size {γ:Γ}{d:Array Nat}{w w':World}(S:SRow P g fst cb cf blk off n Γ K Out)(h:SPost K Out γ w d w'): d.size=n:=by
 obtain⟨γ',h1,_⟩:=h; exact S.size h1
theorem SRow.pcell (S:SRow P g fst cb cf blk off n Γ K Out){γ:Γ}(h:SPost K Out γ w d w')(i:Nat)(hi:i<n):
 w'.cell? ⟨blk,off+i,none⟩=some (.int .i64 (d[i]!:Nat)):=by obtain⟨γ',h1,_⟩:=h; exact S.cell h1 i hi
theorem SRow.pfree (S:SRow P g fst cb cf blk off n Γ K Out){γ:Γ}(h:SPost K Out γ w d w')(i:Nat)(hi:i<n):
 w'.frozen? ⟨blk,off+i,none⟩=false:=by obtain⟨γ',h1,_⟩:=h; exact S.free h1 i hi
theorem SRow.pswap (S:SRow P g fst cb cf blk off n Γ K Out){γ:Γ}(h:SPost K Out γ w d w')(i j:Nat)(hi:i<n)(hj:j<n):
 SPost K Out γ w (swp d i j) (((w'.setCell ⟨blk,off+i,none⟩ (.int .i64 (d[j]!:Nat))).setCell ⟨blk,off+j,none⟩ (.int .i64 (d[i]!:Nat))).drew):=by
 obtain⟨γ',h1,h2,h3⟩:=h
 refine⟨γ',S.drew (S.swap h1 i j hi hj),by simpa using h2,fun c hc hl=>?_⟩
 obtain⟨h4,h5⟩:=h3 c hc hl
 have hne:=S.out h4
 refine⟨h4,?_⟩
 show ((w'.setCell _ _).setCell _ _).heap[c]? = _
 rw[RowKit.Below.heap_setCell _ _ _ _ hne,RowKit.Below.heap_setCell _ _ _ _ hne]
 exact h5
theorem SRow.pcell2 (S:SRow P g fst cb cf blk off n Γ K Out){γ:Γ}(h:SPost K Out γ w d w')(i j:Nat)(hi:i<n)(hj:j<n)(v:Value):
 ∃ u,(w'.setCell ⟨blk,off+i,none⟩ v).cell? ⟨blk,off+j,none⟩=some u:=by
 by_cases e:i=j
 ·subst e; exact⟨v,World.cell?_setCell_same _ _ _ (S.pcell h i hi)⟩
 ·exact⟨_,(World.cell?_setCell_other _ _ _ _ (by intro e'; simp only[Addr.mk.injEq] at e'; omega)).trans (S.pcell h j hj)⟩
theorem SRow.pcmp (S:SRow P g fst cb cf blk off n Γ K Out){γ:Γ}(h:SPost K Out γ w d w')(i j:Nat)(hi:i<n)(hj:j<n):
 Calls P g (fst++(#[.int .i64 (d[i]!:Nat),.int .i64 (d[j]!:Nat)]++cb)) w'.drew fun e w2=>e=.returned (.int .i64 (cf d[i]! d[j]!))∧Hid (SPost K Out γ w d w2):=by
 obtain⟨γ',h1,h2,h3⟩:=h
 refine (S.cmp (S.drew h1) i j hi hj).mono ?_
 rintro e w2 ⟨he,γ2,k1,k2,k3⟩
 refine⟨he,γ2,k1,Nat.le_trans h2 k2,fun c hc hl=>?_⟩
 obtain⟨a1,a2⟩:=h3 c hc hl
 obtain⟨b1,b2⟩:=k3 c a1 (Nat.lt_of_lt_of_le hl h2)
 exact⟨b1,b2.trans a2⟩
theorem SPost.and {γ γ1:Γ}{d2:Array Nat}{w1 w2:World}(h2:w.heap.size≤w1.heap.size)(h3:∀ c,Out γ c→c<w.heap.size→Out γ1 c∧w1.heap[c]? = w.heap[c]?) 
 (k:SPost K Out γ1 w1 d2 w2):SPost K Out γ w d2 w2:=by
 obtain⟨γ',k1,k2,k3⟩:=k
 refine⟨γ',k1,Nat.le_trans h2 k2,fun c hc hl=>?_⟩
 obtain⟨a1,a2⟩:=h3 c hc hl
 obtain⟨b1,b2⟩:=k3 c a1 (Nat.lt_of_lt_of_le hl h2)
 exact⟨b1,b2.trans a2⟩
variable {lt:Nat→Nat→Bool}
theorem insInner_go (a q:Nat)(d:Array Nat)(h1:a<q+1)(h2:lt d[q+1]! d[q]! = true): insInner lt a (q+1) d=insInner lt a q (swp d (q+1) q):=by
 rw[insInner];simp[h2];omega
theorem insInner_stop (a q:Nat)(d:Array Nat)(h2:lt d[q+1]! d[q]! = false): insInner lt a (q+1) d=d:=by
 rw[insInner];simp[h2]
theorem insInner_end (a:Nat)(d:Array Nat): insInner lt a a d=d:=by
 cases a with
 | zero=>rfl
 | succ a=>rw[insInner];simp
theorem insOuter_go (a b i:Nat)(d:Array Nat)(h:i<b): insOuter lt a b i d=insOuter lt a b (i+1) (insInner lt a i d):=by
 rw[insOuter];simp[h]
theorem insOuter_stop (a b i:Nat)(d:Array Nat)(h:¬ i<b): insOuter lt a b i d=d:=by
 rw[insOuter];simp[h]
end
end Go
namespace Sr
open Go Go.Proofs Go.RowKit Go.Sort
section
variable {g:FuncId} {fst cb:Array Value} {cf:Nat→Nat→Int} {blk off n:Nat} {Γ:Type} {K:Γ→Array Nat→World→Prop} {Out:Γ→Nat→Prop}
theorem insertionSort_calls (S:SRow Tryz.prog g fst cb cf blk off n Γ K Out)(eg:∀ args w,(callFunc g args).run Tryz.prog w=.ok (.enter g args) w) 
 (w:World) (cap a b:Nat) (hab:a≤b) (hb:b≤n) (hn:n≤1000000000) (γ:Γ) (d:Array Nat) (hK:K γ d w) :
 Calls Tryz.prog 146 #[.slice (some ⟨blk,off,none⟩) n cap,.int .i64 a,.int .i64 b,.func (.func g) fst cb] w fun e w' =>
  e=.returned (.tuple #[])∧Hid (SPost K Out γ w (insertionSort (ltf cf) d a b) w'):=by
 have H0:Hid (SPost K Out γ w d w):=SPost.refl hK
 clear hK
 go_enter Tryz.func146,Tryz.ntmps146
 go_wp2_with fail
 go_loopg [8] (b - a) (fun g1 vi wr=>∃ (i:Nat) (dk:Array Nat),vi=.int .i64 i∧a<i∧i≤b+1∧b+1 - i≤g1+1∧Hid (SPost K Out γ w dk wr)∧Hid (insOuter (ltf cf) a b i dk=insOuter (ltf cf) a b (a+1) d))
 case atStart=>exact⟨a+1,d,by go_num,by omega,by omega,by omega,H0,rfl⟩
 case round =>
  clear H0
  obtain⟨i,dk,rfl,hai,hib,hg1,H1,E1⟩:=hrel
  by_cases hlt:i<b
  ·have hltz:(i:Int)<(b:Int):=by omega
   go_wp2_with fail
   go_loopg [9] i (fun g2 vj wr2=>∃ (j:Nat) (dj:Array Nat),vj=.int .i64 j∧a≤j∧j≤i∧j≤g2∧Hid (SPost K Out γ w dj wr2)∧Hid (insInner (ltf cf) a j dj=insInner (ltf cf) a i dk))
   case atStart=>exact⟨i,dk,rfl,by omega,jR _,jR _,H1,rfl⟩
   case round =>
    clear H1
    obtain⟨j,dj,rfl,haj,hji,hg2,H2,E2⟩:=hrel
    by_cases hja:a<j
    ·obtain⟨q,rfl⟩:∃ q,j=q+1:=⟨j - 1,by omega⟩
     have e1:((q:Int)+1:Int).toNat=q+1:=by omega
     have p1:(0:Int)≤(q:Int)+1:=by omega
     have b1:((q:Int)+1:Int)<(n:Int):=by omega
     have w1:IntKind.i64.wrap ((q:Int)+1:Int)=(q:Int)+1:=by rw[IntKind.wrap_i64];omega
     have e2:((q:Int):Int).toNat=q:=by omega
     have p2:(0:Int)≤(q:Int):=by omega
     have b2:((q:Int):Int)<(n:Int):=by omega
     have w2:IntKind.i64.wrap ((q:Int):Int)=(q:Int):=by rw[IntKind.wrap_i64];omega
     have c1:=S.pcell H2.out (q+1) (by omega)
     have c2:=S.pcell H2.out q (by omega)
     have hd:decide ((a:Int)<(q:Int)+1)=true:=by simp; omega
     have HC:=S.pcmp H2.out (q+1) q (by omega) (by omega)
     clear H2
     by_cases hc:cf dj[q+1]! dj[q]!<0
     ·have hlv:ltf cf dj[q+1]! dj[q]! = true:=decide_eq_true hc
      have E3:Hid (insInner (ltf cf) a q (swp dj (q+1) q)=insInner (ltf cf) a i dk):=by show _=_; rw[← E2.out,insInner_go a q dj hja hlv]
      clear E2 hlv
      go_wp2_with fail
      go_still_tail 14,(by kernel_rfl)
      change wpList _ _ _ _ _ wr.drew
      go_wp2_with ((with_reducible refine HC.mono ?_);rintro e w' ⟨rfl,H3⟩)
      clear HC c1 c2
      have c1:=S.pcell H3.out (q+1) (by omega)
      have c2:=S.pcell H3.out q (by omega)
      have f1:=S.pfree H3.out (q+1) (by omega)
      have f2:=S.pfree H3.out q (by omega)
      have H4:Hid _:=S.pswap H3.out (q+1) q (by omega) (by omega)
      clear H3
      go_region
      clear c1 c2 f1 f2
      go_wp2_with fail
      go_roundg q
      case measure=>omega
      case rel=>exact⟨q,swp dj (q+1) q,by go_num,by omega,by omega,jR _,H4,E3⟩
     ·have hlv:ltf cf dj[q+1]! dj[q]! = false:=decide_eq_false hc
      have E3:Hid (insOuter (ltf cf) a b (i+1) dj=insOuter (ltf cf) a b (a+1) d):=by
       show _=_; rw[← E1.out,insOuter_go _ _ _ _ hlt,← E2.out,insInner_stop _ _ _ hlv]
      clear E2 hlv
      go_wp2_with fail
      go_still_tail 14,(by kernel_rfl)
      change wpList _ _ _ _ _ wr.drew
      go_wp2_with ((with_reducible refine HC.mono ?_);rintro e w' ⟨rfl,H3⟩)
      clear HC c1 c2
      go_roundg (b - (i+1))
      case measure=>omega
      case rel=>exact⟨i+1,dj,by go_num,by omega,by omega,by omega,H3,E3⟩
    ·obtain rfl:j=a:=by omega
     have E3:Hid (insOuter (ltf cf) j b (i+1) dj=insOuter (ltf cf) j b (j+1) d):=by
      show _=_; rw[← E1.out,insOuter_go _ _ _ _ hlt,← E2.out,insInner_end]
     have H3:Hid _:=S.pdrew H2.out
     clear E2 H2
     have hd:decide ((j:Int)<(j:Int))=false:=by simp
     go_wp2_with fail
     go_region
     go_wp2_with fail
     go_roundg (b - (i+1))
     case measure=>omega
     case rel=>exact⟨i+1,dj,by go_num,by omega,by omega,by omega,H3,E3⟩
  ·have hltz:¬ (i:Int)<(b:Int):=by omega
   go_wp2_with fail
   go_end0
   exact⟨rfl,by unfold insertionSort; rw[← E1.out,insOuter_stop _ _ _ _ hlt];exact H1⟩
theorem reverseLoop_go (i j:Nat)(d:Array Nat)(h:i<j): reverseLoop i j d=reverseLoop (i+1) (j - 1) (swp d i j):=by rw[reverseLoop];simp[h]
theorem reverseLoop_stop (i j:Nat)(d:Array Nat)(h:¬ i<j): reverseLoop i j d=d:=by rw[reverseLoop];simp[h]
theorem reverseRange_calls (S:SRow Tryz.prog g fst cb cf blk off n Γ K Out) 
 (w:World) (cap a b:Nat) (hab:a<b) (hb:b≤n) (hn:n≤1000000000) (γ:Γ) (d:Array Nat) (hK:K γ d w) (f:Value) :
 Calls Tryz.prog 150 #[.slice (some ⟨blk,off,none⟩) n cap,.int .i64 a,.int .i64 b,f] w fun e w' =>
  e=.returned (.tuple #[])∧Hid (SPost K Out γ w (reverseRange d a b) w'):=by
 have H0:Hid (SPost K Out γ w d w):=SPost.refl hK
 clear hK
 obtain⟨b,rfl⟩:∃ q,b=q+1:=⟨b - 1,by omega⟩
 go_enter Tryz.func150,Tryz.ntmps150
 go_wp2_with fail
 go_loopg [8,9] (b - a) (fun g1 vi vj wr=>∃ (i j:Nat) (dk:Array Nat),vi=.int .i64 i∧vj=.int .i64 j∧a≤i∧j≤b∧i≤j+1∧j - i≤g1∧Hid (SPost K Out γ w dk wr)∧Hid (reverseLoop i j dk=reverseLoop a b d))
 case atStart=>exact⟨a,b,d,by go_num,by go_num,by omega,by omega,by omega,by omega,H0,rfl⟩
 case round =>
  clear H0
  obtain⟨i,j,dk,rfl,rfl,hai,hjb,hij,hg1,H1,E1⟩:=hrel
  by_cases hlt:i<j
  ·have hltz:(i:Int)<(j:Int):=by omega
   have E2:Hid (reverseLoop (i+1) (j - 1) (swp dk i j)=reverseLoop a b d):=by show _=_; rw[← E1.out,reverseLoop_go i j dk hlt]
   clear E1
   have e1:((i:Int):Int).toNat=i:=by omega
   have p1:(0:Int)≤(i:Int):=by omega
   have b1:((i:Int):Int)<(n:Int):=by omega
   have w1:IntKind.i64.wrap ((i:Int):Int)=(i:Int):=by rw[IntKind.wrap_i64];omega
   have e2:((j:Int):Int).toNat=j:=by omega
   have p2:(0:Int)≤(j:Int):=by omega
   have b2:((j:Int):Int)<(n:Int):=by omega
   have w2:IntKind.i64.wrap ((j:Int):Int)=(j:Int):=by rw[IntKind.wrap_i64];omega
   have c1:=S.pcell H1.out i (by omega)
   have c2:=S.pcell H1.out j (by omega)
   have f1:=S.pfree H1.out i (by omega)
   have f2:=S.pfree H1.out j (by omega)
   obtain⟨u,c3⟩:=S.pcell2 H1.out i j (by omega) (by omega) (.int .i64 (dk[j]!:Nat))
   have H2:Hid _:=S.pswap H1.out i j (by omega) (by omega)
   clear H1
   go_wp2_with fail
   go_region
   clear c1 c2 f1 f2 c3
   go_wp2_with fail
   go_roundg (j - 1 - (i+1))
   case measure=>omega
   case rel=>exact⟨i+1,j - 1,swp dk i j,by go_num,by congr 1; omega,by omega,by omega,by omega,by omega,H2,E2⟩
  ·have hltz:¬ (i:Int)<(j:Int):=by omega
   go_wp2_with fail
   go_end0
   exact⟨rfl,by unfold reverseRange; rw[show b+1 - 1=b from rfl,← E1.out,reverseLoop_stop _ _ _ hlt];exact H1⟩
end
end Sr
