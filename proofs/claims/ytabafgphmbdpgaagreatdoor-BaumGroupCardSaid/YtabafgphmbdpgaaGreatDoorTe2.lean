/- Texts of this claim, joined: Wd, Cmp, Cmp2, Cmp3, Cmp4. -/
import Derived.Test.YtabafgphmbdpgaaGreatDoorTe1
import Derived.Test.YtabafgphmbdpgaaGreatDoorProg
import Derived.WalkKit
import Derived.WalkSpells
import Derived.Outline
import Derived.Maps.OwnSet
import Derived.WideKeyArgs2
import Derived.DeepKeys4
import Derived.Deep.LoopGhost
import Derived.Deep.CutBlock
import Derived.Deep.CutRange
import Derived.Deep.RegionWith
import Derived.BigRegion
import Derived.BigQuiet
import Derived.Deep.RegionHeld3
import Derived.StillTailTactics
set_option maxHeartbeats 8000000
set_option maxRecDepth 100000
namespace Sr
open Go Go.Proofs Go.RowKit Go.Maps Go.WideMaps
def tcells (l:List PT): List Value:=l.flatMap fun t=>[.bool t.1,.int .i64 (t.2:Nat)]
theorem tcells_len (l:List PT): (tcells l).length=l.length*2:=by
 induction l with
 | nil=>rfl
 | cons t l ih=>simp only[tcells,List.flatMap_cons,List.length_append,List.length_cons,List.length_nil] at *;omega
theorem tcells_append (a b:List PT): tcells (a++b)=tcells a++tcells b:=by simp[tcells]
theorem law9:Keyed Tryz.prog 9:=string_keyed Tryz.underlying9
theorem law3:Keyed Tryz.prog 3:=int_keyed Tryz.underlying3
def TRow (W:World)(v:Value)(l:List PT): Prop:=W.ownsRow 0 154 2 v l.length (tcells l)
structure Fr (F:List Nat)(w w':World): Prop where
 os:w'.os=w.os
 tape:w'.tape=w.tape
 output:w'.output=w.output
 size:w.heap.size≤w'.heap.size
 block:∀ b,b<w.heap.size→b∉F→w'.heap[b]? = w.heap[b]?
structure FE (F:List Nat)(w:World)(F':List Nat)(w':World): Prop where
 fr:Fr F w w'
 sub:∀ b∈F',b∈F∨w.heap.size≤b
theorem Fr.refl (F:List Nat)(w:World): Fr F w w:=⟨rfl,rfl,rfl,jR _,fun _ _ _=>rfl⟩
theorem FE.refl (F:List Nat)(w:World): FE F w F w:=⟨Fr.refl F w,fun _ h=>.inl h⟩
theorem FE.trans {F F1 F2:List Nat}{w w1 w2:World}(h:FE F w F1 w1)(k:FE F1 w1 F2 w2): FE F w F2 w2:=by
 refine⟨⟨k.fr.os.trans h.fr.os,k.fr.tape.trans h.fr.tape,k.fr.output.trans h.fr.output,Nat.le_trans h.fr.size k.fr.size,fun b hb hn=>?_⟩,fun b hb=>?_⟩
 ·have hn1:b∉F1:=fun hb1=>by rcases h.sub b hb1 with h1 | h1; exact hn h1; omega
  exact (k.fr.block b (Nat.lt_of_lt_of_le hb h.fr.size) hn1).trans (h.fr.block b hb hn)
 ·rcases k.sub b hb with h1 | h1
  ·exact h.sub b h1
  ·exact .inr (Nat.le_trans h.fr.size h1)
structure WD where
 fv:Value
 mp:Nat
 mg:Nat
 mo:Nat
 fl:List Value
theorem Fr.of_below {F:List Nat}{w w':World}(h:Below w.heap.size w w'): Fr F w w':=⟨h.os,h.tape,h.output,h.size,fun b hb _=>h.block b hb⟩
theorem zero3 (w:World): (zeroValue 3).run Tryz.prog w=.ok (.int .i64 0) w:=by kernel_rfl
theorem laidOut:laidOutB Tryz.prog=true:=by kernel_rfl
theorem row162:(162:TypeId)<Tryz.prog.types.size:=of_decide_eq_true (by kernel_rfl)
theorem wide162:(match Tryz.prog.underlying 162 with | some (.array _ _) | some (.struct _)=>true | _=>false)=true:=by rw[Tryz.underlying162]
theorem cells162:Tryz.prog.cellsOf 162=2:=by kernel_rfl
theorem law162:Keyed Tryz.prog 162:=Keyed.of_law (deep_law_laid laidOut (m:=2) (by omega) row162 (by kernel_rfl) wide162)
theorem key162 {a b:Int}(ha:(Lit.int .i64 a).wf=true)(hb:(Lit.int .i64 b).wf=true): ∃ l,keyOf Tryz.prog 162 (.agg #[.int .i64 a,.int .i64 b])=some l:=by
 have hk:Tryz.prog.keyType 162=true:=by kernel_rfl
 have hf:(Value.agg #[.int .i64 a,.int .i64 b]).formed Tryz.prog 162=true:=by simp[Value.formed,Tryz.underlying162,cells162]
 have hs:∃ n,Tryz.prog.types.size+1=n+2:=⟨Tryz.prog.types.size - 1,by have h:(162:Nat)<Tryz.prog.types.size:=row162; omega⟩
 obtain⟨n,hn⟩:=hs
 have c3:Tryz.prog.cellsOf 3=1:=by kernel_rfl
 refine Option.isSome_iff_exists.1 ?_
 unfold keyOf
 rw[Tryz.underlying162]
 simp only[hk,hf,Bool.and_self,if_true,hn]
 simp[Program.keyLits,Tryz.underlying162,Tryz.underlying3,c3,ha,hb,Value.cells,cells162,List.range_succ]
theorem keyInt {a:Int}(ha:(Lit.int .i64 a).wf=true): keyOf Tryz.prog 3 (.int .i64 a)=some (.int .i64 a):=keyOf_int_mk Tryz.underlying3 ha
theorem keyStr {s:ByteArray}(hs:s.size≤maxLen): keyOf Tryz.prog 9 (.string s)=some (.string s.data.toList):=keyOf_string_mk Tryz.underlying9 hs
theorem wfNat {a:Nat}(h:a<9223372036854775808): (Lit.int .i64 (a:Int)).wf=true:=WalkArith.wf_i64 (by omega)
structure WO (C:List Nat)(W:World)(p:Nat)(F:List Nat)(D:WD)(vs:List Int)(gk:List Nat)(m:Nat): Prop where
 wv:WV vs
 obj:W.heap[p]? = some (.cells #[D.fv,.map (some D.mp),.map (some D.mg),.map (some D.mo)] 125 (0,0))
 inF:p∈F∧D.mp∈F∧D.mg∈F∧D.mo∈F
 ne:D.mp≠D.mg∧D.mp≠D.mo∧D.mg≠D.mo
 forms:W.ownsRow 0 111 1 D.fv vs.length D.fl
 fblk:∀ b,D.fv.ownBlock=some b→b∈F
 rows:∀ (i:Nat) (x:Int),vs[i]? = some x→∃ v,D.fl[i]? = some v∧TRow W v (pf vs x)∧∀ b,v.ownBlock=some b→b∈F
 plc:∃ f,MapF Tryz.prog 9 W D.mp f∧∀ k v,f k=some v↔∃ (i:Nat) (x:Int),vs[i]? = some x∧k=.string ⟨(kb (pf vs x)).toArray⟩∧v=.int .i64 (i:Nat)
 grt:∃ f,MapF Tryz.prog 3 W D.mg f∧(∀ k v,f k=some v→∃ (i j e:Nat),vs[i]? = some (e:Int)∧vs[j]? = some ((e:Int)+1)∧k=.int .i64 (i:Nat)∧v=.int .i64 (j:Nat)∧e∈gk) ∧
  ∀ e∈gk,∃ (i:Nat),vs[i]? = some (e:Int)∧f (.int .i64 (i:Nat))≠none
 ord:∃ f,MapF Tryz.prog 162 W D.mo f∧∀ k v,f k=some v→∃ (a b:Nat) (x y:Int),vs[a]? = some x∧vs[b]? = some y∧k=.agg #[.int .i64 (a:Nat),.int .i64 (b:Nat)]∧v=.int .i64 (isg (x - y))
 gnd:gk.Nodup
 cov:∀ e∈gk,e∈C
 len:vs.length≤m+gk.length
 bnd:m+C.length≤2147483648
 blt:∀ b∈F,b<W.heap.size
section
variable {C:List Nat} {W W':World} {p:Nat} {F:List Nat} {D:WD} {vs:List Int} {gk:List Nat} {m:Nat}
theorem jJ {base e size n:Nat}{v:Value}{xs:List Value}(h:W.ownsRow base e size v n xs)(hb:∀ b,v.ownBlock=some b→W'.heap[b]? = W.heap[b]?): W'.ownsRow base e size v n xs:=by
 obtain⟨h1,h2 | ⟨g,cap,cur,rfl,h3,h4,h5⟩⟩:=h
 ·exact⟨h1,.inl h2⟩
 ·exact⟨h1,.inr ⟨g,cap,cur,rfl,h3,(hb g rfl).trans h4,h5⟩⟩
theorem WO.kept (h:WO C W p F D vs gk m)(hb:∀ b∈F,W'.heap[b]? = W.heap[b]?): WO C W' p F D vs gk m where
 wv:=h.wv
 obj:=(hb p h.inF.1).trans h.obj
 inF:=h.inF
 ne:=h.ne
 forms:=jJ h.forms (fun b e=>hb b (h.fblk b e))
 fblk:=h.fblk
 rows:=fun i x hi=>by
  obtain⟨v,h1,h2,h3⟩:=h.rows i x hi
  exact⟨v,h1,jJ h2 (fun b e=>hb b (h3 b e)),h3⟩
 plc:=by obtain⟨f,h1,h2⟩:=h.plc; exact⟨f,h1.kept (hb _ h.inF.2.1),h2⟩
 grt:=by obtain⟨f,h1,h2⟩:=h.grt; exact⟨f,h1.kept (hb _ h.inF.2.2.1),h2⟩
 ord:=by obtain⟨f,h1,h2⟩:=h.ord; exact⟨f,h1.kept (hb _ h.inF.2.2.2),h2⟩
 gnd:=h.gnd
 cov:=h.cov
 len:=h.len
 bnd:=h.bnd
 blt:=fun b hbF=>by
  have:=h.blt b hbF
  have h1:=hb b hbF
  rw[Array.getElem?_eq_getElem this] at h1
  exact (jA h1).1
theorem WO.below (h:WO C W p F D vs gk m)(hb:Below W.heap.size W W'): WO C W' p F D vs gk m:=h.kept fun b hbF=>hb.block b (h.blt b hbF)
theorem WO.alloc (h:WO C W p F D vs gk m)(o:Obj): WO C (W.alloc o) p F D vs gk m:=h.below ((Below.refl _ _).alloc (jR _) o)
theorem WO.drew (h:WO C W p F D vs gk m): WO C W.drew p F D vs gk m:=h.kept fun _ _=>rfl
theorem WO.setCell (h:WO C W p F D vs gk m){a:Addr}(ha:a.block∉F)(v:Value): WO C (W.setCell a v) p F D vs gk m:=h.kept fun b hb=>Below.heap_setCell _ _ _ _ (by rintro rfl; exact ha hb)
theorem nodup_count {gk C:List Nat}(h1:gk.Nodup)(h2:∀ e∈gk,e∈C): gk.length≤C.length:=jT _ _ h1 h2
theorem WO.vlen (h:WO C W p F D vs gk m): vs.length≤2147483648:=by
 have:=h.len; have:=nodup_count h.gnd h.cov; have:=h.bnd; omega
theorem jB {W:World}{b:Nat}{c:Array Value}{T:TypeId}{fz:Nat×Nat}(h:W.heap[b]? = some (.cells c T fz))(o:Nat): W.cell? ⟨b,o,none⟩=c[o]?:=by
 simp[World.cell?,h]
theorem jF {W:World}{b:Nat}{c:Array Value}{T:TypeId}(h:W.heap[b]? = some (.cells c T (0,0)))(o:Nat): W.frozen? ⟨b,o,none⟩=false:=by
 simp[World.frozen?,h]
theorem WO.c0 (h:WO C W p F D vs gk m): W.cell? ⟨p,0,none⟩=some D.fv:=by rw[jB h.obj];rfl
theorem WO.c1 (h:WO C W p F D vs gk m): W.cell? ⟨p,1,none⟩=some (.map (some D.mp)):=by rw[jB h.obj];rfl
theorem WO.c2 (h:WO C W p F D vs gk m): W.cell? ⟨p,2,none⟩=some (.map (some D.mg)):=by rw[jB h.obj];rfl
theorem WO.c3 (h:WO C W p F D vs gk m): W.cell? ⟨p,3,none⟩=some (.map (some D.mo)):=by rw[jB h.obj];rfl
end
theorem jD (w:World)(o:Obj): (w.alloc o).heap[w.heap.size]? = some o:=(MapKept.heap_alloc w o).1
theorem jE (w:World)(o:Obj){b:Nat}(h:b<w.heap.size): (w.alloc o).heap[b]? = w.heap[b]?:=Below.heap_alloc w o b h
theorem jY (w:World)(o:Obj): (w.alloc o).heap.size=w.heap.size+1:=by simp
theorem newWorld_wo (C:List Nat)(hC:C.length≤2147483640)(w w1:World)(hs:w1.heap.size=w.heap.size+2)(hf:w1.heap[w.heap.size]? = some (.cells #[.slice none 0 0] 111 (0,0))) 
 (HM:MapF Tryz.prog 9 w1 (w.heap.size+1) (updF (fun _=>none) (.string ⟨#[]⟩) (.int .i64 0))) :
 WO C (((w1.alloc (.map #[] 0)).alloc (.map #[] 0)).alloc (.cells #[.slice (some ⟨w.heap.size,0,none⟩) 1 1,.map (some (w.heap.size+1)),.map (some (w.heap.size+2)),.map (some (w.heap.size+2+1))] 125)) (w.heap.size+4)
  [w.heap.size+4,w.heap.size+1,w.heap.size+2,w.heap.size+3,w.heap.size] ⟨.slice (some ⟨w.heap.size,0,none⟩) 1 1,w.heap.size+1,w.heap.size+2,w.heap.size+3,[.slice none 0 0]⟩ [0] [] 1:=by
 generalize w.heap.size=n at *
 have h3:(w1.alloc (.map #[] 0)).heap.size=n+3:=by rw[jY,hs]
 have h4:((w1.alloc (.map #[] 0)).alloc (.map #[] 0)).heap.size=n+4:=by rw[jY,h3]
 have e4:=jD ((w1.alloc (.map #[] 0)).alloc (.map #[] 0)) (.cells #[.slice (some ⟨n,0,none⟩) 1 1,.map (some (n+1)),.map (some (n+2)),.map (some (n+2+1))] 125)
 rw[h4] at e4
 have m3:MapF Tryz.prog 162 (((w1.alloc (.map #[] 0)).alloc (.map #[] 0)).alloc (.cells #[.slice (some ⟨n,0,none⟩) 1 1,.map (some (n+1)),.map (some (n+2)),.map (some (n+2+1))] 125)) (n+3) (fun _=>none):=by
  have:=MapF.made Tryz.prog 162 (w1.alloc (.map #[] 0))
  rw[h3] at this
  exact this.kept (jE _ _ (by omega))
 have m2:MapF Tryz.prog 3 (((w1.alloc (.map #[] 0)).alloc (.map #[] 0)).alloc (.cells #[.slice (some ⟨n,0,none⟩) 1 1,.map (some (n+1)),.map (some (n+2)),.map (some (n+2+1))] 125)) (n+2) (fun _=>none):=by
  have:=MapF.made Tryz.prog 3 w1
  rw[hs] at this
  exact (this.kept (jE _ _ (by omega))).kept (jE _ _ (by omega))
 have m1:=((HM.kept (jE w1 (.map #[] 0) (by omega))).kept (jE (w1.alloc (.map #[] 0)) (.map #[] 0) (by omega))).kept (jE ((w1.alloc (.map #[] 0)).alloc (.map #[] 0)) (.cells #[.slice (some ⟨n,0,none⟩) 1 1,.map (some (n+1)),.map (some (n+2)),.map (some (n+2+1))] 125) (by omega))
 have f0:=(jE ((w1.alloc (.map #[] 0)).alloc (.map #[] 0)) (.cells #[.slice (some ⟨n,0,none⟩) 1 1,.map (some (n+1)),.map (some (n+2)),.map (some (n+2+1))] 125) (b:=n) (by omega)).trans ((jE (w1.alloc (.map #[] 0)) (.map #[] 0) (b:=n) (by omega)).trans ((jE w1 (.map #[] 0) (b:=n) (by omega)).trans hf))
 generalize hW:(((w1.alloc (.map #[] 0)).alloc (.map #[] 0)).alloc (.cells #[.slice (some ⟨n,0,none⟩) 1 1,.map (some (n+1)),.map (some (n+2)),.map (some (n+2+1))] 125))=W at *
 have hsz:W.heap.size=n+5:=by rw[← hW,jY,h4]
 have z:∀ (i:Nat) (x:Int),([0]:List Int)[i]? = some x→i=0∧x=0:=fun i x h=>by
  cases i with
  | zero=>simp at h; exact⟨rfl,h.symm⟩
  | succ i=>simp at h
 have hpf:pf [0] 0=[]:=by simp[pf,j5]
 exact {
  wv:=⟨rfl,by simp,fun i x h e he=>by obtain⟨_,rfl⟩:=z i x h; simp[exps,j5] at he⟩
  obj:=e4
  inF:=by simp
  ne:=by simp
  forms:=⟨rfl,.inr ⟨n,1,_,rfl,Nat.zero_le _,f0,jR _,by decide,rfl,rfl⟩⟩
  fblk:=fun b hb=>by simp[Value.ownBlock] at hb; simp[hb]
  rows:=fun i x h=>by
   obtain⟨rfl,rfl⟩:=z i x h
   exact⟨_,rfl,by rw[hpf];exact⟨rfl,.inl ⟨rfl,rfl⟩⟩,fun b hb=>by cases hb⟩
  plc:=⟨_,m1,fun k v=>by
   constructor
   ·intro h
    unfold updF at h
    split at h
    ·rename_i hk; cases h; exact⟨0,0,rfl,by rw[hk,hpf];rfl,rfl⟩
    ·cases h
   ·rintro⟨i,x,h,rfl,rfl⟩
    obtain⟨rfl,rfl⟩:=z i x h
    rw[hpf]
    unfold updF
    exact if_pos rfl⟩
  grt:=⟨_,m2,⟨fun k v h=>(by cases h),fun e he=>(by simp at he)⟩⟩
  ord:=⟨_,m3,fun k v h=>(by cases h)⟩
  gnd:=by simp
  cov:=by simp
  len:=by simp
  bnd:=by omega
  blt:=fun b hb=>by simp at hb; omega }
theorem zc (C:List Nat)(hC:C.length≤2147483640)(w:World): Calls Tryz.prog 52 #[] w fun e w'=>∃ (p:Nat) (F:List Nat) (D:WD),e=.returned (.pointer (some ⟨p,0,none⟩))∧Hid (WO C w' p F D [0] [] 1)∧Hid (FE [] w F w'):=by
 have hmm:=@run_makeMap Tryz.prog
 obtain⟨w1,hrun,hm,hs,hg⟩:=(MapF.made Tryz.prog 9 (w.alloc (.cells #[.slice none 0 0] 111))).store law9 Tryz.underlying121 (x:=.string ⟨#[]⟩) (v:=.int .i64 0) (keyStr (by decide))
 rw[show (w.alloc (.cells #[.slice none 0 0] 111)).heap.size=w.heap.size+1 by simp] at hrun hm hg
 rw[show ((w.alloc (.cells #[.slice none 0 0] 111)).alloc (.map #[] 0)).heap.size=w.heap.size+2 by simp] at hs
 have hb0:Below w.heap.size w ((w.alloc (.cells #[.slice none 0 0] 111)).alloc (.map #[] 0)):=((Below.refl _ _).alloc (jR _) _).alloc (Nat.le_of_lt (by simp)) _
 have hb1:Hid (Below w.heap.size w w1):=hb0.grown hg (by simp; omega) (fun k hk=>by cases hk; omega)
 have hf:Hid (w1.heap[w.heap.size]? = some (.cells #[.slice none 0 0] 111 (0,0))):=by
  have:=hg.block w.heap.size (by simp; omega) (by intro e; have:=Option.some.inj e; omega)
  show _=_
  rw[this]
  show ((w.alloc _).alloc _).heap[w.heap.size]? = _
  rw[Below.heap_alloc _ _ _ (by simp)]
  exact (MapKept.heap_alloc w _).1
 have HM:Hid (MapF Tryz.prog 9 w1 (w.heap.size+1) _):=hm
 clear hm hg hb0
 go_enter Tryz.func52,Tryz.ntmps52
 go_wp2_with fail
 go_ret
 refine⟨w.heap.size+4,[w.heap.size+4,w.heap.size+1,w.heap.size+2,w.heap.size+3,w.heap.size],⟨.slice (some ⟨w.heap.size,0,none⟩) 1 1,w.heap.size+1,w.heap.size+2,w.heap.size+3,[.slice none 0 0]⟩,rfl,?_,?_⟩
 ·exact newWorld_wo C hC w w1 hs hf.out HM.out
 ·refine⟨Fr.of_below ?_,fun b hb=>.inr ?_⟩
  ·exact ((((hb1.out.alloc (by omega) _).alloc (by simp; omega) _).alloc (by simp; omega) _))
  ·simp at hb; omega
section
theorem sg_true:sg true = -1:=rfl
theorem sg_false:sg false=1:=rfl
theorem one_calls (s:Bool)(a:Int)(w:World): Calls Tryz.prog 136 #[.agg #[.bool s,.int .i64 a]] w fun e w'=>e=.returned (.int .i64 (sg s))∧w'=w.alloc (.cells #[.bool s,.int .i64 a] 154):=by
 cases s
 all_goals
  go_enter Tryz.func136,Tryz.ntmps136
  go_wp2_with fail
  go_ret
  exact⟨rfl,rfl⟩
def dif (sx sy hx hy:Bool)(c:Int): Int:=if hx=false then -(sg sy) else if hy=false∨sx≠sy then sg sx else sg sx*c
variable {F:List Nat} {W:World}
theorem Fr.pre {W1 W2:World}(h:Fr F W W1)(k:Fr F W1 W2): Fr F W W2 :=
 ⟨k.os.trans h.os,k.tape.trans h.tape,k.output.trans h.output,Nat.le_trans h.size k.size,fun b hb hn=>(k.block b (Nat.lt_of_lt_of_le hb h.size) hn).trans (h.block b hb hn)⟩
theorem Fr.drew {F:List Nat}{W w:World}(h:Fr F W w): Fr F W w.drew:=⟨h.os,h.tape,h.output,h.size,h.block⟩
theorem Fr.alloc {F:List Nat}{W w:World}(h:Fr F W w)(o:Obj): Fr F W (w.alloc o) :=
 ⟨h.os,h.tape,h.output,Nat.le_trans h.size (by simp),fun b hb hn=>(jE _ _ (Nat.lt_of_lt_of_le hb h.size)).trans (h.block b hb hn)⟩
theorem wrapc (c:Int)(h:-1≤c∧c≤1): IntKind.i64.wrap c=c:=IntWalk.i64_in _ (by omega)
theorem differ_both {C:List Nat}{p:Nat}{D:WD}{vs:List Int}{gk:List Nat}{m:Nat}(H:Hid (WO C W p F D vs gk m))(s:Bool)(ax ay c:Int)(hcb:-1≤c∧c≤1) 
 (HC:∀ W1,Hid (WO C W1 p F D vs gk m)→Calls Tryz.prog 64 #[.pointer (some ⟨p,0,none⟩),.int .i64 ax,.int .i64 ay] W1 fun e W2=>e=.returned (.int .i64 c)∧Hid (WO C W2 p F D vs gk m)∧Hid (Fr F W1 W2)) :
 Calls Tryz.prog 107 #[.pointer (some ⟨p,0,none⟩),.agg #[.bool s,.int .i64 ax],.agg #[.bool s,.int .i64 ay],.bool true,.bool true] W fun e W'=>e=.returned (.int .i64 (sg s*c))∧Hid (WO C W' p F D vs gk m)∧Hid (Fr F W W'):=by
 have ho:∀ a w,Calls Tryz.prog 136 #[.agg #[.bool s,.int .i64 a]] w fun e w'=>e=.returned (.int .i64 (sg s))∧w'=w.alloc (.cells #[.bool s,.int .i64 a] 154):=fun a w=>one_calls s a w
 have HC2:∀ a b c':Obj,Calls Tryz.prog 64 #[.pointer (some ⟨p,0,none⟩),.int .i64 ax,.int .i64 ay] (((W.alloc a).alloc b).alloc c').drew fun e W2=>e=.returned (.int .i64 c)∧Hid (WO C W2 p F D vs gk m)∧Hid (Fr F W W2)∧Hid (Fr F (((W.alloc a).alloc b).alloc c').drew W2):=fun a b c'=>by
  refine (HC _ ?_).mono fun e W2 ⟨h1,h2,h3⟩=>⟨h1,h2,Fr.pre ?_ h3.out,h3⟩
  ·exact (((H.out.alloc a).alloc b).alloc c').drew
  ·exact ((((Fr.refl F W).alloc a).alloc b).alloc c').drew
 have hw:IntKind.i64.wrap (sg s*c)=sg s*c:=wrapc _ (by cases s <;>simp[sg_true,sg_false] <;>omega)
 have hnF:∀ b∈F,b<W.heap.size:=H.out.blt
 have hn0:W.heap.size∉F:=fun h=>by have:=hnF _ h; omega
 have hn1:W.heap.size+1∉F:=fun h=>by have:=hnF _ h; omega
 clear hnF
 have hS:∀ (a b:Array Value) (c':Obj) (W2:World),Fr F (((W.alloc (.cells a 154)).alloc (.cells b 154)).alloc c').drew W2→W2.heap[W.heap.size]? = some (.cells a 154 (0,0))∧W2.heap[W.heap.size+1]? = some (.cells b 154 (0,0)):=fun a b c' W2 hf=>by
  have h0:((W.alloc (.cells a 154)).alloc (.cells b 154)).heap[W.heap.size]? = some (.cells a 154 (0,0)):=(jE _ _ (by simp)).trans (jD W _)
  have h1:((W.alloc (.cells a 154)).alloc (.cells b 154)).heap[W.heap.size+1]? = some (.cells b 154 (0,0)):=by have:=jD (W.alloc (.cells a 154)) (.cells b 154);rwa [jY] at this
  exact⟨(hf.block _ (by simp; omega) hn0).trans ((jE _ _ (by simp; omega)).trans h0),(hf.block _ (by simp) hn1).trans ((jE _ _ (by simp)).trans h1)⟩
 have HS:Hid (∀ (a b:Array Value) (c':Obj) (W2:World),Fr F (((W.alloc (.cells a 154)).alloc (.cells b 154)).alloc c').drew W2→W2.heap[W.heap.size]? = some (.cells a 154 (0,0))∧W2.heap[W.heap.size+1]? = some (.cells b 154 (0,0))):=hS
 clear hS HC H hn0 hn1
 have hss:(s != s)=false:=by simp
 go_enter Tryz.func107,Tryz.ntmps107
 go_wp2_with fail
 go_region_held3 (fun w'=>w'.cell? ⟨W.heap.size,0,none⟩=some (.bool s)∧w'.cell? ⟨W.heap.size,1,none⟩=some (.int .i64 ax)∧w'.cell? ⟨W.heap.size+1,1,none⟩=some (.int .i64 ay)) (first | go_keep | (have:=HS.out _ _ _ _ HF.out; simp[World.cell?,this.1,this.2]))
  (first | (go_at_call 136; refine (ho _ _).mono ?_; rintro e w' ⟨rfl,rfl⟩) | (go_at_call 64; refine (HC2 _ _ _).mono ?_; rintro e w' ⟨rfl,HX,HY,HF⟩))
 go_wp2_with fail
 go_ret
 exact⟨rfl,HX,HY⟩
theorem differ_one (p:Value)(sx sy hx hy:Bool)(ax ay:Int)(c:Int) 
 (h:(hx=false∧c = -(sg sy))∨(hx=true∧(hy=false∨sx≠sy)∧c=sg sx)) :
 Calls Tryz.prog 107 #[p,.agg #[.bool sx,.int .i64 ax],.agg #[.bool sy,.int .i64 ay],.bool hx,.bool hy] W fun e W'=>e=.returned (.int .i64 c)∧∃ a b d,W'=((W.alloc a).alloc b).alloc d:=by
 have ho:∀ s a w,Calls Tryz.prog 136 #[.agg #[.bool s,.int .i64 a]] w fun e w'=>e=.returned (.int .i64 (sg s))∧w'=w.alloc (.cells #[.bool s,.int .i64 a] 154):=fun s a w=>one_calls s a w
 have hw:IntKind.i64.wrap (-(sg sy)) = -(sg sy):=wrapc _ (by cases sy <;>simp[sg_true,sg_false])
 rcases h with ⟨rfl,rfl⟩ | ⟨rfl,h | h,rfl⟩
 ·go_enter Tryz.func107,Tryz.ntmps107
  go_wp2_with fail
  refine (ho _ _ _).mono ?_
  rintro e w' ⟨rfl,rfl⟩
  go_wp2_with fail
  go_ret
  exact⟨rfl,_,_,_,rfl⟩
 ·subst h
  go_enter Tryz.func107,Tryz.ntmps107
  go_wp2_with fail
  refine (ho _ _ _).mono ?_
  rintro e w' ⟨rfl,rfl⟩
  go_wp2_with fail
  go_ret
  exact⟨rfl,_,_,_,rfl⟩
 ·have hs2:(!sx==sy)=true:=by cases sx <;>cases sy <;>simp_all
  cases hy
  all_goals
   go_enter Tryz.func107,Tryz.ntmps107
   go_wp2_with fail
   refine (ho _ _ _).mono ?_
   rintro e w' ⟨rfl,rfl⟩
   go_wp2_with fail
   go_ret
   exact⟨rfl,_,_,_,rfl⟩
theorem yx {C:List Nat}{p:Nat}{D:WD}{vs:List Int}{gk:List Nat}{m:Nat}(H:Hid (WO C W p F D vs gk m))(sx sy hx hy:Bool)(ax ay c:Int)(hcb:-1≤c∧c≤1) 
 (HC:hx=true→hy=true→sx=sy→∀ W1,Hid (WO C W1 p F D vs gk m)→Calls Tryz.prog 64 #[.pointer (some ⟨p,0,none⟩),.int .i64 ax,.int .i64 ay] W1 fun e W2=>e=.returned (.int .i64 c)∧Hid (WO C W2 p F D vs gk m)∧Hid (Fr F W1 W2)) :
 Calls Tryz.prog 107 #[.pointer (some ⟨p,0,none⟩),.agg #[.bool sx,.int .i64 ax],.agg #[.bool sy,.int .i64 ay],.bool hx,.bool hy] W fun e W'=>e=.returned (.int .i64 (dif sx sy hx hy c))∧Hid (WO C W' p F D vs gk m)∧Hid (Fr F W W'):=by
 by_cases hb:hx=true∧hy=true∧sx=sy
 ·obtain⟨rfl,rfl,rfl⟩:=hb
  have:dif sx sx true true c=sg sx*c:=by simp[dif]
  rw[this]
  exact differ_both H sx ax ay c hcb (HC rfl rfl rfl)
 ·refine (differ_one _ sx sy hx hy ax ay (dif sx sy hx hy c) ?_).mono ?_
  ·unfold dif
   by_cases h1:hx=false
   ·rw[if_pos h1];exact .inl ⟨h1,rfl⟩
   ·have h1':hx=true:=by simpa using h1
    have h2:hy=false∨sx≠sy:=by
     by_cases h3:hy=true
     ·exact .inr fun h=>hb ⟨h1',h3,h⟩
     ·exact .inl (by simpa using h3)
    rw[if_neg h1,if_pos h2]
    exact .inr ⟨h1',h2,rfl⟩
  ·rintro e w' ⟨rfl,a,b,d,rfl⟩
   exact⟨rfl,((H.out.alloc a).alloc b).alloc d,(((Fr.refl F W).alloc a).alloc b).alloc d⟩
end
section
theorem qG:∀ {l:List PT} {k:Nat} {t:PT},l[k]? = some t→(tcells l)[k*2]? = some (.bool t.1)∧(tcells l)[k*2+1]? = some (.int .i64 (t.2:Nat))
 | [],_,_,h=>by simp at h
 | s::l,0,t,h=>by simp at h; subst h; exact⟨rfl,rfl⟩
 | s::l,k+1,t,h=>by
   have h':l[k]? = some t:=by simpa using h
   obtain⟨h1,h2⟩:=qG h'
   have e:tcells (s::l)=[.bool s.1,.int .i64 (s.2:Nat)]++tcells l:=rfl
   rw[e]
   constructor
   ·rw[List.getElem?_append_right (by simp; omega)];rw[show (k+1)*2 - [Value.bool s.1,.int .i64 (s.2:Nat)].length=k*2 by simp; omega];exact h1
   ·rw[List.getElem?_append_right (by simp; omega)];rw[show (k+1)*2+1 - [Value.bool s.1,.int .i64 (s.2:Nat)].length=k*2+1 by simp; omega];exact h2
variable {W:World} {v:Value} {k:Nat} {a:List PT}
theorem TRow.shape {l:List PT}(h:TRow W v l): ∃ a cap,v=.slice a l.length cap∧l.length≤maxLen∧∀ (k:Nat) (t:PT),l[k]? = some t→∃ g,a=some ⟨g,0,none⟩∧W.cell? ⟨g,k*2,none⟩=some (.bool t.1)∧W.cell? ⟨g,k*2+1,none⟩=some (.int .i64 (t.2:Nat)):=by
 obtain⟨h1,⟨rfl,h2⟩ | ⟨g,cap,cur,rfl,h3,h4,h5,h6,h7,h8⟩⟩:=h
 ·have:l=[]:=List.length_eq_zero_iff.1 h2
  subst this
  exact⟨none,0,rfl,by decide,fun k t hk=>by simp at hk⟩
 ·refine⟨_,cap,rfl,Nat.le_trans h5 h6,fun k t hk=>⟨g,rfl,?_⟩⟩
  obtain⟨e1,e2⟩:=qG hk
  have hk2:k<l.length:=(jL hk).1
  rw[← h8] at e1 e2
  rw[jB h4,jB h4,← Array.getElem?_toList,← Array.getElem?_toList]
  exact⟨by rw[← e1,List.getElem?_take_of_lt (by omega)],by rw[← e2,List.getElem?_take_of_lt (by omega)]⟩
theorem maxLen_lt:maxLen≤9223372036854775807:=by decide
theorem jP {base e size n:Nat}{xs:List Value}(h:W.ownsRow base e size v n xs){b:Nat}(hb:v.ownBlock=some b): b<W.heap.size:=by
 obtain⟨_,⟨rfl,_⟩ | ⟨g,cap,cur,rfl,_,h4,_⟩⟩:=h
 ·cases hb
 ·cases hb; exact (jA h4).1
theorem jK {W':World}{base e size n:Nat}{xs:List Value}(h:W.ownsRow base e size v n xs)(hb:Below W.heap.size W W'): W'.ownsRow base e size v n xs :=
 jJ h fun _ e=>hb.block _ (jP h e)
theorem jg {b o:Nat}(h:W.cell? ⟨b,o,none⟩=some v): b<W.heap.size:=by
 unfold World.cell? at h
 split at h
 ·rename_i h1; exact (jA h1).1
 ·cases h
def cmpT (c:Nat→Nat→Int): List PT→List PT→Int
 | [],[]=>0
 | [],y::_=>-(sg y.1)
 | x::_,[]=>sg x.1
 | x::a,y::b=>if x=y then cmpT c a b else if x.1≠y.1 then sg x.1 else sg x.1*c x.2 y.2
theorem yj {c:Nat→Nat→Int}: ∀ (k:Nat) {a b:List PT},(∀ i<k,∃ t,a[i]? = some t∧b[i]? = some t)→cmpT c a b=cmpT c (a.drop k) (b.drop k)
 | 0,_,_,_=>rfl
 | k+1,[],b,h=>by obtain⟨t,h1,_⟩:=h 0 (by omega);simp at h1
 | k+1,x::a,[],h=>by obtain⟨t,_,h1⟩:=h 0 (by omega);simp at h1
 | k+1,x::a,y::b,h=>by
   obtain⟨t,h1,h2⟩:=h 0 (by omega)
   have e:x=y:=by simp at h1 h2; rw[h1,h2]
   rw[cmpT,if_pos e]
   exact yj k fun i hi=>by simpa using h (i+1) (by omega)
theorem cmpT_end {c:Nat→Nat→Int}{b:List PT}(h:∀ i<k,∃ t,a[i]? = some t∧b[i]? = some t)(h1:a.length≤k)(h2:b.length≤k): cmpT c a b=0:=by
 rw[yj k h,List.drop_eq_nil_of_le h1,List.drop_eq_nil_of_le h2];rfl
theorem zy {l:List PT}{t:PT}(h:l[k]? = some t): l.drop k=t::l.drop (k+1):=by
 obtain⟨h1,h2⟩:=jL h
 rw[List.drop_eq_getElem_cons h1,h2]
theorem cmpT_left {c:Nat→Nat→Int}{b:List PT}{x:PT}(h:∀ i<k,∃ t,a[i]? = some t∧b[i]? = some t)(hx:a[k]? = some x)(h2:b.length≤k): cmpT c a b=sg x.1:=by
 rw[yj k h,zy hx,List.drop_eq_nil_of_le h2];rfl
theorem cmpT_right {c:Nat→Nat→Int}{b:List PT}{y:PT}(h:∀ i<k,∃ t,a[i]? = some t∧b[i]? = some t)(hy:b[k]? = some y)(h1:a.length≤k): cmpT c a b = -(sg y.1):=by
 rw[yj k h,zy hy,List.drop_eq_nil_of_le h1];rfl
theorem cmpT_both {c:Nat→Nat→Int}{b:List PT}{x y:PT}(h:∀ i<k,∃ t,a[i]? = some t∧b[i]? = some t)(hx:a[k]? = some x)(hy:b[k]? = some y)(hne:x≠y): cmpT c a b=dif x.1 y.1 true true (c x.2 y.2):=by
 rw[yj k h,zy hx,zy hy,cmpT,if_neg hne,dif]
 by_cases he:x.1=y.1 <;>simp[he]
theorem compared_calls {C:List Nat}{p:Nat}{F:List Nat}{D:WD}{vs:List Int}{gks:List Nat}{m:Nat}(H:Hid (WO C W p F D vs gks m))(va vb:Value)(la lb:List PT)(c:Nat→Nat→Int) 
 (ha:TRow W va la) (hb:TRow W vb lb) (hcb:∀ i j,-1≤c i j∧c i j≤1)
 (HC:∀ (k:Nat) (x y:PT),la[k]? = some x→lb[k]? = some y→∀ W1,Hid (WO C W1 p F D vs gks m)→Calls Tryz.prog 64 #[.pointer (some ⟨p,0,none⟩),.int .i64 (x.2:Nat),.int .i64 (y.2:Nat)] W1 fun e W2=>e=.returned (.int .i64 (c x.2 y.2))∧Hid (WO C W2 p F D vs gks m)∧Hid (Fr F W1 W2)) :
 Calls Tryz.prog 106 #[va,vb,.func (.func 107) #[.pointer (some ⟨p,0,none⟩)] #[]] W fun e W'=>e=.returned (.int .i64 (cmpT c la lb))∧Hid (WO C W' p F D vs gks m)∧Hid (Fr F W W'):=by
 have Ha:Hid (TRow W va la):=ha
 have Hb:Hid (TRow W vb lb):=hb
 obtain⟨aa,ca,rfl,hla,_⟩:=ha.shape
 obtain⟨ab,cb,rfl,hlb,_⟩:=hb.shape
 have HD:=fun (W1:World) (h:Hid (WO C W1 p F D vs gks m)) sx sy hx hy (ax ay:Nat) (k:Nat) (h1:hx=true→la[k]? = some (sx,ax)) (h2:hy=true→lb[k]? = some (sy,ay))=>yx h sx sy hx hy ax ay (c ax ay) (hcb _ _) fun e1 e2 _=>HC k _ _ (h1 e1) (h2 e2)
 have HDl:=fun (W1:World) (h:Hid (WO C W1 p F D vs gks m)) (sx:Bool) (ax:Nat)=>yx h sx false true false ax 0 0 (by omega) (fun _ e=>by cases e)
 have HDr:=fun (W1:World) (h:Hid (WO C W1 p F D vs gks m)) (sy:Bool) (ay:Nat)=>yx h false sy false true 0 ay 0 (by omega) (fun e=>by cases e)
 clear HC ha hb hcb
 have B0:Hid (Below W.heap.size W W):=Below.refl _ _
 by_cases hm:la.length<lb.length
 ·
  go_enter Tryz.func106,Tryz.ntmps106
  go_wp2_with fail
  go_loopg [15] lb.length (fun g1 vi wr=>∃ (k:Nat),vi=.int .i64 k∧k≤lb.length∧lb.length - k≤g1∧Hid (Below W.heap.size W wr)∧Hid (∀ i<k,∃ t,la[i]? = some t∧lb[i]? = some t))
  case atStart=>exact⟨0,rfl,by omega,by omega,B0,fun i hi=>by omega⟩
  case round =>
   clear B0
   obtain⟨k,rfl,hkM,hg,HB,HE⟩:=hrel
   by_cases hk:k<lb.length
   ·have hkz:(k:Int)<(lb.length:Int):=by omega
    have hk0:(0:Int)≤(k:Int):=Int.natCast_nonneg k
    have hkw:IntKind.i64.wrap ((k:Int)+1)=(k:Int)+1:=IntWalk.i64_in _ (by have:=maxLen_lt; omega)
    by_cases hka:k<la.length
    ·have hkaz:(k:Int)<(la.length:Int):=by omega
     obtain⟨_,_,ea,_,sa⟩:=TRow.shape (jK Ha.out HB.out)
     cases ea
     obtain⟨⟨sx,ax⟩,hx⟩:∃ x,la[k]? = some x:=⟨_,jG hka⟩
     obtain⟨ga,rfl,cx0,cx1⟩:=sa k _ hx
     have Hx:Hid _:=hx
     dsimp only at cx0 cx1
     have la0:ga<wr.heap.size:=jg cx0
     have la1:ga≠wr.heap.size:=by omega
     have la2:ga≠wr.heap.size+1:=by omega
     clear sa hx
     by_cases hkb:k<lb.length
     ·have hkbz:(k:Int)<(lb.length:Int):=by omega
      obtain⟨_,_,eb,_,sb⟩:=TRow.shape (jK Hb.out HB.out)
      cases eb
      obtain⟨⟨sy,ay⟩,hy⟩:∃ x,lb[k]? = some x:=⟨_,jG hkb⟩
      obtain⟨gb,rfl,cy0,cy1⟩:=sb k _ hy
      have Hy:Hid _:=hy
      dsimp only at cy0 cy1
      have lb0:gb<wr.heap.size:=jg cy0
      have lb1:gb≠wr.heap.size:=by omega
      have lb2:gb≠wr.heap.size+1:=by omega
      clear sb hy
      by_cases he:sx=sy∧ax=ay
      ·obtain⟨rfl,rfl⟩:=he
       have HE2:Hid (∀ i<k+1,∃ t,la[i]? = some t∧lb[i]? = some t):=fun i hi=>if h:i=k then ⟨(sx,ax),h▸Hx.out,h▸Hy.out⟩ else HE.out i (by omega)
       have HB2:Hid (∀ a b,Below W.heap.size W ((wr.alloc a).alloc b)):=fun a b=>(HB.out.alloc HB.out.size _).alloc (Nat.le_trans HB.out.size (by simp)) _
       clear HB HE
       go_wp2_with fail
       go_roundg (lb.length - (k+1))
       case measure=>omega
       case rel=>exact⟨k+1,by go_num,by omega,by omega,HB2.out _ _,HE2⟩
      ·have HR:Hid (cmpT c la lb=dif sx sy true true (c ax ay)):=cmpT_both HE.out Hx.out Hy.out (fun e1=>he ⟨congrArg Prod.fst e1,congrArg Prod.snd e1⟩)
       have HF:Hid (∀ a b,Fr F W ((wr.alloc a).alloc b)):=fun a b=>((Fr.of_below HB.out).alloc a).alloc b
       have HW:Hid (∀ a b,WO C ((wr.alloc a).alloc b) p F D vs gks m):=fun a b=>((H.out.below HB.out).alloc a).alloc b
       clear HB HE
       have hz:sx=sy→¬ ((ax:Int)=(ay:Int)):=fun e1 e2=>he ⟨e1,by omega⟩
       clear he
       by_cases hs:sx=sy
       ·subst hs
        have hz2:=hz rfl
        clear hz
        go_wp2_with fail
        refine (HD _ ?_ sx sx true true ax ay k (fun _=>Hx.out) (fun _=>Hy.out)).mono ?_
        ·exact HW.out _ _
        rintro e w' ⟨rfl,H3,H4⟩
        go_wp2_with fail
        go_ret
        exact⟨congrArg (fun x=>Ending.returned (.int .i64 x)) HR.out.symm,H3,Fr.pre (HF.out _ _) H4.out⟩
       ·clear hz
        go_wp2_with fail
        refine (HD _ ?_ sx sy true true ax ay k (fun _=>Hx.out) (fun _=>Hy.out)).mono ?_
        ·exact HW.out _ _
        rintro e w' ⟨rfl,H3,H4⟩
        go_wp2_with fail
        go_ret
        exact⟨congrArg (fun x=>Ending.returned (.int .i64 x)) HR.out.symm,H3,Fr.pre (HF.out _ _) H4.out⟩
     ·
      exfalso; omega
    ·
     have hkaz:¬ ((k:Int)<(la.length:Int)):=by omega
     obtain⟨_,_,eb,_,sb⟩:=TRow.shape (jK Hb.out HB.out)
     cases eb
     obtain⟨⟨sy,ay⟩,hy⟩:∃ x,lb[k]? = some x:=⟨_,jG (by omega)⟩
     obtain⟨gb,rfl,cy0,cy1⟩:=sb k _ hy
     have Hy:Hid _:=hy
     dsimp only at cy0 cy1
     have lb0:gb<wr.heap.size:=jg cy0
     have lb1:gb≠wr.heap.size:=by omega
     have lb2:gb≠wr.heap.size+1:=by omega
     clear sb hy
     have hkbz:(k:Int)<(lb.length:Int):=by omega
     have HR:Hid (cmpT c la lb=dif false sy false true 0):=(cmpT_right HE.out Hy.out (by omega)).trans (by simp[dif])
     have HF:Hid (∀ a b,Fr F W ((wr.alloc a).alloc b)):=fun a b=>((Fr.of_below HB.out).alloc a).alloc b
     have HW:Hid (∀ a b,WO C ((wr.alloc a).alloc b) p F D vs gks m):=fun a b=>((H.out.below HB.out).alloc a).alloc b
     clear HB HE
     go_wp2_with fail
     refine (HDr _ ?_ sy ay).mono ?_
     ·exact HW.out _ _
     rintro e w' ⟨rfl,H3,H4⟩
     go_wp2_with fail
     go_ret
     exact⟨congrArg (fun x=>Ending.returned (.int .i64 x)) HR.out.symm,H3,Fr.pre (HF.out _ _) H4.out⟩
   ·have hkz:¬ ((k:Int)<(lb.length:Int)):=by omega
    go_wp2_with fail
    go_ret
    exact⟨congrArg (fun x=>Ending.returned (.int .i64 x)) (cmpT_end HE.out (by omega) (by omega)).symm,H.out.below HB.out,Fr.of_below HB.out⟩
 ·
  go_enter Tryz.func106,Tryz.ntmps106
  go_wp2_with fail
  go_loopg [15] la.length (fun g1 vi wr=>∃ (k:Nat),vi=.int .i64 k∧k≤la.length∧la.length - k≤g1∧Hid (Below W.heap.size W wr)∧Hid (∀ i<k,∃ t,la[i]? = some t∧lb[i]? = some t))
  case atStart=>exact⟨0,rfl,by omega,by omega,B0,fun i hi=>by omega⟩
  case round =>
   clear B0
   obtain⟨k,rfl,hkM,hg,HB,HE⟩:=hrel
   by_cases hk:k<la.length
   ·have hkz:(k:Int)<(la.length:Int):=by omega
    have hk0:(0:Int)≤(k:Int):=Int.natCast_nonneg k
    have hkw:IntKind.i64.wrap ((k:Int)+1)=(k:Int)+1:=IntWalk.i64_in _ (by have:=maxLen_lt; omega)
    by_cases hka:k<la.length
    ·have hkaz:(k:Int)<(la.length:Int):=by omega
     obtain⟨_,_,ea,_,sa⟩:=TRow.shape (jK Ha.out HB.out)
     cases ea
     obtain⟨⟨sx,ax⟩,hx⟩:∃ x,la[k]? = some x:=⟨_,jG hka⟩
     obtain⟨ga,rfl,cx0,cx1⟩:=sa k _ hx
     have Hx:Hid _:=hx
     dsimp only at cx0 cx1
     have la0:ga<wr.heap.size:=jg cx0
     have la1:ga≠wr.heap.size:=by omega
     have la2:ga≠wr.heap.size+1:=by omega
     clear sa hx
     by_cases hkb:k<lb.length
     ·have hkbz:(k:Int)<(lb.length:Int):=by omega
      obtain⟨_,_,eb,_,sb⟩:=TRow.shape (jK Hb.out HB.out)
      cases eb
      obtain⟨⟨sy,ay⟩,hy⟩:∃ x,lb[k]? = some x:=⟨_,jG hkb⟩
      obtain⟨gb,rfl,cy0,cy1⟩:=sb k _ hy
      have Hy:Hid _:=hy
      dsimp only at cy0 cy1
      have lb0:gb<wr.heap.size:=jg cy0
      have lb1:gb≠wr.heap.size:=by omega
      have lb2:gb≠wr.heap.size+1:=by omega
      clear sb hy
      by_cases he:sx=sy∧ax=ay
      ·obtain⟨rfl,rfl⟩:=he
       have HE2:Hid (∀ i<k+1,∃ t,la[i]? = some t∧lb[i]? = some t):=fun i hi=>if h:i=k then ⟨(sx,ax),h▸Hx.out,h▸Hy.out⟩ else HE.out i (by omega)
       have HB2:Hid (∀ a b,Below W.heap.size W ((wr.alloc a).alloc b)):=fun a b=>(HB.out.alloc HB.out.size _).alloc (Nat.le_trans HB.out.size (by simp)) _
       clear HB HE
       go_wp2_with fail
       go_roundg (la.length - (k+1))
       case measure=>omega
       case rel=>exact⟨k+1,by go_num,by omega,by omega,HB2.out _ _,HE2⟩
      ·have HR:Hid (cmpT c la lb=dif sx sy true true (c ax ay)):=cmpT_both HE.out Hx.out Hy.out (fun e1=>he ⟨congrArg Prod.fst e1,congrArg Prod.snd e1⟩)
       have HF:Hid (∀ a b,Fr F W ((wr.alloc a).alloc b)):=fun a b=>((Fr.of_below HB.out).alloc a).alloc b
       have HW:Hid (∀ a b,WO C ((wr.alloc a).alloc b) p F D vs gks m):=fun a b=>((H.out.below HB.out).alloc a).alloc b
       clear HB HE
       have hz:sx=sy→¬ ((ax:Int)=(ay:Int)):=fun e1 e2=>he ⟨e1,by omega⟩
       clear he
       by_cases hs:sx=sy
       ·subst hs
        have hz2:=hz rfl
        clear hz
        go_wp2_with fail
        refine (HD _ ?_ sx sx true true ax ay k (fun _=>Hx.out) (fun _=>Hy.out)).mono ?_
        ·exact HW.out _ _
        rintro e w' ⟨rfl,H3,H4⟩
        go_wp2_with fail
        go_ret
        exact⟨congrArg (fun x=>Ending.returned (.int .i64 x)) HR.out.symm,H3,Fr.pre (HF.out _ _) H4.out⟩
       ·clear hz
        go_wp2_with fail
        refine (HD _ ?_ sx sy true true ax ay k (fun _=>Hx.out) (fun _=>Hy.out)).mono ?_
        ·exact HW.out _ _
        rintro e w' ⟨rfl,H3,H4⟩
        go_wp2_with fail
        go_ret
        exact⟨congrArg (fun x=>Ending.returned (.int .i64 x)) HR.out.symm,H3,Fr.pre (HF.out _ _) H4.out⟩
     ·
      have hkbz:¬ ((k:Int)<(lb.length:Int)):=by omega
      have HR:Hid (cmpT c la lb=dif sx false true false 0):=(cmpT_left HE.out Hx.out (by omega)).trans (by simp[dif])
      have HF:Hid (∀ a b,Fr F W ((wr.alloc a).alloc b)):=fun a b=>((Fr.of_below HB.out).alloc a).alloc b
      have HW:Hid (∀ a b,WO C ((wr.alloc a).alloc b) p F D vs gks m):=fun a b=>((H.out.below HB.out).alloc a).alloc b
      clear HB HE
      go_wp2_with fail
      refine (HDl _ ?_ sx ax).mono ?_
      ·exact HW.out _ _
      rintro e w' ⟨rfl,H3,H4⟩
      go_wp2_with fail
      go_ret
      exact⟨congrArg (fun x=>Ending.returned (.int .i64 x)) HR.out.symm,H3,Fr.pre (HF.out _ _) H4.out⟩
    ·
     exfalso; omega
   ·have hkz:¬ ((k:Int)<(la.length:Int)):=by omega
    go_wp2_with fail
    go_ret
    exact⟨congrArg (fun x=>Ending.returned (.int .i64 x)) (cmpT_end HE.out (by omega) (by omega)).symm,H.out.below HB.out,Fr.of_below HB.out⟩
end
section
theorem lcmp_map {vs:List Int}{a b:List (Bool×Nat)}(ha:∀ t∈a,((t.2:Nat):Int)∈vs)(hb:∀ t∈b,((t.2:Nat):Int)∈vs):
 cmpT (fun i j=>isg (zb vs i - zb vs j)) (a.map fun t=>(t.1,vs.idxOf (t.2:Int))) (b.map fun t=>(t.1,vs.idxOf (t.2:Int)))=lcmp a b:=by
 induction a generalizing b with
 | nil=>cases b <;>rfl
 | cons s a ih =>
   cases b with
   | nil=>rfl
   | cons t b =>
     have hs:=ha s (by simp)
     have ht:=hb t (by simp)
     have hi:vs.idxOf (s.2:Int)=vs.idxOf (t.2:Int)↔s.2=t.2:=by
      constructor
      ·intro e
       have h1:=jU hs; have h2:=jU ht
       rw[e,h2] at h1; have:=Option.some.inj h1; omega
      ·intro e; rw[e]
     have he:(s.1,vs.idxOf (s.2:Int))=(t.1,vs.idxOf (t.2:Int))↔s=t:=by
      rw[Prod.ext_iff,Prod.ext_iff];simp only[hi]
     simp only[List.map_cons,cmpT,lcmp,he]
     rw[ih (fun t h=>ha t (by simp[h])) (fun t h=>hb t (by simp[h])),zE (jU hs),zE (jU ht)]
variable {x y:Int} {b:Nat}
theorem cmpT_pf {vs:List Int}(h:WV vs)(hx:x∈vs)(hy:y∈vs): cmpT (fun i j=>isg (zb vs i - zb vs j)) (pf vs x) (pf vs y)=isg (x - y):=by
 unfold pf
 rw[lcmp_map,form_cmp]
 ·intro t ht; exact h.mem_exps hx (List.mem_map.2 ⟨t,ht,rfl⟩)
 ·intro t ht; exact h.mem_exps hy (List.mem_map.2 ⟨t,ht,rfl⟩)
theorem isg_bd (x:Int): -1≤isg x∧isg x≤1:=by
 unfold isg
 by_cases h:x<0
 ·rw[if_pos h];omega
 ·rw[if_neg h];by_cases h2:x=0
  ·rw[if_pos h2];omega
  ·rw[if_neg h2];omega
theorem isg_flip (x y:Int): isg (x - y) = -isg (y - x):=by
 unfold isg
 by_cases h1:x - y<0
 ·rw[if_pos h1,if_neg (by omega),if_neg (by omega)]
 ·by_cases h2:x - y=0
  ·rw[if_neg h1,if_pos h2,if_neg (by omega),if_pos (by omega)];rfl
  ·rw[if_neg h1,if_neg h2,if_pos (by omega)];rfl
section
variable {C:List Nat} {W W':World} {p:Nat} {F:List Nat} {D:WD} {vs:List Int} {gk:List Nat} {m:Nat}
theorem jh {W:World}{base e size n:Nat}{v:Value}{xs:List Value}(h:W.ownsRow base e size v n xs)(hb:v.ownBlock=some b): ∃ c e z,W.heap[b]? = some (.cells c e z):=by
 obtain⟨_,⟨rfl,_⟩ | ⟨g,cap,cur,rfl,_,h4,_⟩⟩:=h
 ·cases hb
 ·cases hb; exact⟨_,_,_,h4⟩
theorem qD {mm:Nat}{P:Program}{k:TypeId}{f:Value→Option Value}(h:∃ c e z,W.heap[b]? = some (.cells c e z))(hm:MapF P k W mm f): b≠mm:=by
 rintro rfl
 obtain⟨c,e,z,h⟩:=h
 obtain⟨es,cl,h2,_⟩:=hm
 rw[h] at h2; cases h2
theorem WO.maps (h:WO C W p F D vs gk m)(hb:∀ b∈F,(∃ c e z,W.heap[b]? = some (.cells c e z))→W'.heap[b]? = W.heap[b]?)(hsz:W.heap.size≤W'.heap.size){gk':List Nat} 
 (hplc:∃ f,MapF Tryz.prog 9 W' D.mp f∧∀ k v,f k=some v↔∃ (i:Nat) (x:Int),vs[i]? = some x∧k=.string ⟨(kb (pf vs x)).toArray⟩∧v=.int .i64 (i:Nat))
 (hgrt:∃ f,MapF Tryz.prog 3 W' D.mg f∧(∀ k v,f k=some v→∃ (i j e:Nat),vs[i]? = some (e:Int)∧vs[j]? = some ((e:Int)+1)∧k=.int .i64 (i:Nat)∧v=.int .i64 (j:Nat)∧e∈gk') ∧
   ∀ e∈gk',∃ (i:Nat),vs[i]? = some (e:Int)∧f (.int .i64 (i:Nat))≠none)
 (hord:∃ f,MapF Tryz.prog 162 W' D.mo f∧∀ k v,f k=some v→∃ (a b:Nat) (x y:Int),vs[a]? = some x∧vs[b]? = some y∧k=.agg #[.int .i64 (a:Nat),.int .i64 (b:Nat)]∧v=.int .i64 (isg (x - y)))
 (hgnd:gk'.Nodup) (hcov:∀ e∈gk',e∈C) (hlen:vs.length≤m+gk'.length):WO C W' p F D vs gk' m where
 wv:=h.wv
 obj:=(hb p h.inF.1 ⟨_,_,_,h.obj⟩).trans h.obj
 inF:=h.inF
 ne:=h.ne
 forms:=jJ h.forms (fun b e=>hb b (h.fblk b e) (jh h.forms e))
 fblk:=h.fblk
 rows:=fun i x hi=>by
  obtain⟨v,h1,h2,h3⟩:=h.rows i x hi
  exact⟨v,h1,jJ h2 (fun b e=>hb b (h3 b e) (jh h2 e)),h3⟩
 plc:=hplc
 grt:=hgrt
 ord:=hord
 gnd:=hgnd
 cov:=hcov
 len:=hlen
 bnd:=h.bnd
 blt:=fun b hbF=>Nat.lt_of_lt_of_le (h.blt b hbF) hsz
theorem Fr.of_grown (h:W.grownBy W' (some b))(hs:W.heap.size≤W'.heap.size)(hb:b∈F): Fr F W W' :=
 ⟨h.os,h.tape,h.output,hs,fun k hk hn=>h.block k hk (by intro e; cases e; exact hn hb)⟩
theorem WO.setOrd (h:WO C W p F D vs gk m){a:Nat}(ha:vs[a]? = some x)(hb:vs[b]? = some y):
 ∃ W3,(Instr.mapUpdate 123 (.map (some D.mo)) (.agg #[.int .i64 (a:Nat),.int .i64 (b:Nat)]) (.int .i64 (isg (x - y)))).run Tryz.prog W=.ok () W3∧WO C W3 p F D vs gk m∧Fr F W W3:=by
 have hv:=h.vlen
 have la:a<vs.length:=(jL ha).1
 have lb:b<vs.length:=(jL hb).1
 obtain⟨l,hl⟩:=key162 (wfNat (a:=a) (by omega)) (wfNat (a:=b) (by omega))
 obtain⟨f,h1,h2⟩:=h.ord
 obtain⟨W3,hrun,hm,hs,hg⟩:=h1.store law162 Tryz.underlying123 (v:=.int .i64 (isg (x - y))) hl
 have hk:∀ b,b<W.heap.size→b≠D.mo→W3.heap[b]? = W.heap[b]?:=fun b hb hn=>hg.block b hb (by intro e; cases e; exact hn rfl)
 refine⟨W3,hrun,h.maps (fun b hbF hc=>hk b (h.blt b hbF) (qD hc h1)) (by omega) ?_ ?_ ?_ h.gnd h.cov h.len,Fr.of_grown hg (by omega) h.inF.2.2.2⟩
 ·obtain⟨f,k1,k2⟩:=h.plc; exact⟨f,k1.kept (hk _ k1.lt h.ne.2.1),k2⟩
 ·obtain⟨f,k1,k2⟩:=h.grt; exact⟨f,k1.kept (hk _ k1.lt h.ne.2.2),k2⟩
 ·refine⟨_,hm,fun k v hkv=>?_⟩
  unfold updF at hkv
  split at hkv
  ·rename_i e; cases hkv; exact⟨a,b,x,y,ha,hb,e,rfl⟩
  ·exact h2 k v hkv
theorem WO.lookOrd (h:WO C W p F D vs gk m){a:Nat}(ha:vs[a]? = some x)(hb:vs[b]? = some y):
 (∀ W',W'.heap[D.mo]? = W.heap[D.mo]?→(Instr.lookup 123 (.map (some D.mo)) (.agg #[.int .i64 (a:Nat),.int .i64 (b:Nat)]) true).run Tryz.prog W'=.ok (.tuple #[.int .i64 0,.bool false]) W') ∨
 (∀ W',W'.heap[D.mo]? = W.heap[D.mo]?→(Instr.lookup 123 (.map (some D.mo)) (.agg #[.int .i64 (a:Nat),.int .i64 (b:Nat)]) true).run Tryz.prog W'=.ok (.tuple #[.int .i64 (isg (x - y)),.bool true]) W'):=by
 have hv:=h.vlen
 have la:a<vs.length:=(jL ha).1
 have lb:b<vs.length:=(jL hb).1
 obtain⟨l,hl⟩:=key162 (wfNat (a:=a) (by omega)) (wfNat (a:=b) (by omega))
 obtain⟨f,h1,h2⟩:=h.ord
 cases hf:f (.agg #[.int .i64 (a:Nat),.int .i64 (b:Nat)]) with
 | none=>left; intro W' hW; have:=(h1.kept hW).look true law162 Tryz.underlying123 (zero3 W') hl; simpa [hf] using this
 | some v =>
   right; intro W' hW
   have:=(h1.kept hW).look true law162 Tryz.underlying123 (zero3 W') hl
   obtain⟨a',b',x',y',k1,k2,k3,rfl⟩:=h2 _ _ hf
   have e1:(a:Int)=a'∧(b:Int)=b':=by simpa using k3
   have e2:a=a':=by omega
   have e3:b=b':=by omega
   subst e2 e3
   rw[ha] at k1; rw[hb] at k2; cases k1; cases k2
   simpa [hf] using this
theorem WO.formAt (h:WO C W p F D vs gk m): ∃ g cap,D.fv=.slice (some ⟨g,0,none⟩) vs.length cap∧g∈F∧∀ (i:Nat) (x:Int),vs[i]? = some x→∃ v,D.fl[i]? = some v∧W.cell? ⟨g,i,none⟩=some v∧TRow W v (pf vs x)∧∀ b,v.ownBlock=some b→b∈F:=by
 have h0:=h.wv.zero
 have hl:0<vs.length:=(jL h0).1
 obtain⟨h1,⟨_,h2⟩ | ⟨g,cap,cur,h2,_,h4,h5,h6,h7,h8⟩⟩:=h.forms
 ·omega
 ·refine⟨g,cap,h2,h.fblk g (by rw[h2];rfl),fun i x hi=>?_⟩
  obtain⟨v,k1,k2,k3⟩:=h.rows i x hi
  refine⟨v,k1,?_,k2,k3⟩
  have hi2:i<vs.length:=(jL hi).1
  rw[jB h4,← Array.getElem?_toList,← k1,← h8,List.getElem?_take_of_lt (by omega)]
end
end
section
def CmpC (C:List Nat)(p:Nat)(F:List Nat)(D:WD)(vs:List Int)(gk:List Nat)(m a b:Nat)(x y:Int): Prop :=
 ∀ W,Hid (WO C W p F D vs gk m)→Calls Tryz.prog 64 #[.pointer (some ⟨p,0,none⟩),.int .i64 (a:Nat),.int .i64 (b:Nat)] W fun e W'=>e=.returned (.int .i64 (isg (x - y)))∧Hid (WO C W' p F D vs gk m)∧Hid (Fr F W W')
theorem cmp_self (C:List Nat)(p:Nat)(F:List Nat)(D:WD)(vs:List Int)(gk:List Nat)(m a:Nat)(x:Int): CmpC C p F D vs gk m a a x x:=by
 intro W H
 have h0:isg (x - x)=0:=by simp[isg]
 rw[h0]
 go_enter Tryz.func64,Tryz.ntmps64
 go_wp2_with fail
 go_ret
 exact⟨rfl,H,Fr.refl _ _⟩
variable {C F gk:List Nat} {p m a b:Nat} {D:WD} {vs:List Int} {x y:Int}
theorem cmp_swap (hab:b<a)(h:CmpC C p F D vs gk m b a y x): CmpC C p F D vs gk m a b x y:=by
 intro W H
 have HC:∀ W,Hid (WO C W p F D vs gk m)→Calls Tryz.prog 64 #[.pointer (some ⟨p,0,none⟩),.int .i64 (b:Nat),.int .i64 (a:Nat)] W fun e W'=>e=.returned (.int .i64 (isg (y - x)))∧Hid (WO C W' p F D vs gk m)∧Hid (Fr F W W'):=h
 have hz:(b:Int)<(a:Int):=by omega
 have hne:¬ ((a:Int)=(b:Int)):=by omega
 have hw:IntKind.i64.wrap (-(isg (y - x))) = -(isg (y - x)):=wrapc _ (by have:=isg_bd (y - x);omega)
 have hfl:Hid (isg (x - y) = -isg (y - x)):=isg_flip x y
 clear h hab
 go_enter Tryz.func64,Tryz.ntmps64
 go_wp2_with fail
 refine (HC _ H).mono ?_
 rintro e w' ⟨rfl,H2,H3⟩
 go_wp2_with fail
 go_ret
 exact⟨congrArg (fun x=>Ending.returned (.int .i64 x)) hfl.out.symm,H2,H3⟩
theorem cmp_less (hab:a<b)(ha:vs[a]? = some x)(hb:vs[b]? = some y) 
 (ih:∀ (i j:Nat) (e f:Int),i<a→j<b→vs[i]? = some e→vs[j]? = some f→CmpC C p F D vs gk m i j e f):CmpC C p F D vs gk m a b x y:=by
 intro W H
 have hz:(a:Int)<(b:Int):=by omega
 have hne:¬ ((a:Int)=(b:Int)):=by omega
 have hng:¬ ((b:Int)<(a:Int)):=by omega
 have la:a<vs.length:=(jL ha).1
 have lb:b<vs.length:=(jL hb).1
 have a0:(0:Int)≤(a:Int):=by omega
 have b0:(0:Int)≤(b:Int):=by omega
 have az:(a:Int)<(vs.length:Int):=by omega
 have bz:(b:Int)<(vs.length:Int):=by omega
 obtain⟨g,cap,hfv,hgF,hrow⟩:=H.out.formAt
 obtain⟨va,ea,cva,_,_⟩:=hrow a x ha
 obtain⟨vb,eb,cvb,_,_⟩:=hrow b y hb
 have HC:∀ W1,Hid (WO C W1 p F D vs gk m)→Calls Tryz.prog 106 #[va,vb,.func (.func 107) #[.pointer (some ⟨p,0,none⟩)] #[]] W1 fun e W'=>e=.returned (.int .i64 (isg (x - y)))∧Hid (WO C W' p F D vs gk m)∧Hid (Fr F W1 W'):=fun W1 H1=>by
  obtain⟨va',ea',ra,_⟩:=H1.out.rows a x ha
  obtain⟨vb',eb',rb,_⟩:=H1.out.rows b y hb
  rw[ea] at ea'; rw[eb] at eb'; cases ea'; cases eb'
  have hwv:=H1.out.wv
  have:=compared_calls H1 va vb (pf vs x) (pf vs y) (fun i j=>isg (zb vs i - zb vs j)) ra rb (fun i j=>isg_bd _) (fun k s t hs ht W2 H2=>by
   obtain⟨s0,hs0,rfl⟩:∃ s0,(form x)[k]? = some s0∧s=(s0.1,vs.idxOf (s0.2:Int)):=by
    unfold pf at hs; rw[List.getElem?_map] at hs; obtain⟨s0,h1,h2⟩:=Option.map_eq_some_iff.1 hs; exact⟨s0,h1,h2.symm⟩
   obtain⟨t0,ht0,rfl⟩:∃ t0,(form y)[k]? = some t0∧t=(t0.1,vs.idxOf (t0.2:Int)):=by
    unfold pf at ht; rw[List.getElem?_map] at ht; obtain⟨s0,h1,h2⟩:=Option.map_eq_some_iff.1 ht; exact⟨s0,h1,h2.symm⟩
   obtain⟨i,hi,e1⟩:=hwv.closed a x ha s0.2 (List.mem_map.2 ⟨s0,jM hs0,rfl⟩)
   obtain⟨j,hj,e2⟩:=hwv.closed b y hb t0.2 (List.mem_map.2 ⟨t0,jM ht0,rfl⟩)
   have i1:=hwv.idx_get e1
   have j1:=hwv.idx_get e2
   dsimp only
   rw[i1,j1,zE e1,zE e2]
   exact ih i j _ _ hi hj e1 e2 W2 H2)
  rw[cmpT_pf hwv (jM ha) (jM hb)] at this
  exact this
 clear ih
 have HC2:∀ W1,Hid (WO C W1 p F D vs gk m)→Calls Tryz.prog 106 #[va,vb,.func (.func 107) #[.pointer (some ⟨p,0,none⟩)] #[]] W1 fun e W'=>e=.returned (.int .i64 (isg (x - y)))∧Hid (WO C W' p F D vs gk m)∧Hid (Fr F W1 W')∧W'.cell? ⟨p,0,none⟩=some (.slice (some ⟨g,0,none⟩) vs.length cap)∧W'.cell? ⟨g,a,none⟩=some va∧W'.cell? ⟨g,b,none⟩=some vb:=fun W1 H1=>by
  refine (HC W1 H1).mono fun e W' ⟨h1,h2,h3⟩=>⟨h1,h2,h3,by rw[← hfv];exact h2.out.c0,?_⟩
  obtain⟨g',cap',hfv',_,hrow'⟩:=h2.out.formAt
  rw[hfv] at hfv'; cases hfv'
  obtain⟨v1,e1,c1,_⟩:=hrow' a x ha
  obtain⟨v2,e2,c2,_⟩:=hrow' b y hb
  rw[ea] at e1; rw[eb] at e2; cases e1; cases e2
  exact⟨c1,c2⟩
 clear HC
 have hn:W.heap.size∉F:=fun h=>by have:=H.out.blt _ h; omega
 have HL:=H.out.lookOrd ha hb
 have HS:Hid (∀ W1,WO C W1 p F D vs gk m→∃ W3,(Instr.mapUpdate 123 (.map (some D.mo)) (.agg #[.int .i64 (a:Nat),.int .i64 (b:Nat)]) (.int .i64 (isg (x - y)))).run Tryz.prog W1=.ok () W3∧WO C W3 p F D vs gk m∧Fr F W1 W3):=fun W1 h=>h.setOrd ha hb
 have hp0:W.cell? ⟨p,0,none⟩=some (.slice (some ⟨g,0,none⟩) vs.length cap):=by rw[← hfv];exact H.out.c0
 have hp3:=H.out.c3
 have H0:Hid (∀ o,WO C (W.alloc o).drew p F D vs gk m∧Fr F W (W.alloc o).drew):=fun o=>⟨(H.out.alloc o).drew,((Fr.refl F W).alloc o).drew⟩
 have hmo:∀ o,(W.alloc o).drew.heap[D.mo]? = W.heap[D.mo]?:=fun o=>jE W o (H.out.blt _ H.out.inF.2.2.2)
 have lp:=World.new_ne W _ hp0
 have lg:=World.new_ne W _ cva
 clear hrow
 rcases HL with HL | HL
 ·have HL1:=HL _ (hmo (.cells #[.int .i64 a,.int .i64 b] 162))
  clear HL hmo
  go_enter Tryz.func64,Tryz.ntmps64
  go_wp2_with fail
  go_region_held3 (fun w'=>w'.cell? ⟨p,3,none⟩=some (.map (some D.mo))∧w'.cell? ⟨W.heap.size,0,none⟩=some (.int .i64 a)∧w'.cell? ⟨W.heap.size,1,none⟩=some (.int .i64 b)∧(Instr.lookup 123 (.map (some D.mo)) (.agg #[.int .i64 (a:Nat),.int .i64 (b:Nat)]) true).run Tryz.prog w'=.ok (.tuple #[.int .i64 0,.bool false]) w')
   (first | (refine⟨by go_keep,by go_keep,by go_keep,?_⟩;first | assumption | exact HL1)) (fail)
  clear HL1
  go_wp2_with fail
  go_region_held3 (fun w'=>w'.cell? ⟨p,0,none⟩=some (.slice (some ⟨g,0,none⟩) vs.length cap)∧w'.cell? ⟨g,a,none⟩=some va∧w'.cell? ⟨g,b,none⟩=some vb) (first | exact⟨hc0,hca,hcb⟩ | go_keep)
   (first | (go_at_call 106; refine (HC2 _ ?_).mono ?_; exact (H0.out _).1.drew; rintro e W2 ⟨rfl,H2,H3,hc0,hca,hcb⟩))
  clear hc0 hca hcb hp0 hp3 cva cvb
  have hp3:=H2.out.c3
  have hbx:W2.heap[W.heap.size]? = some (.cells #[.int .i64 a,.int .i64 b] 162 (0,0)):=by
   rw[H3.out.block _ (by simp) hn];exact jD W _
  have hk0:W2.cell? ⟨W.heap.size,0,none⟩=some (.int .i64 a):=by rw[jB hbx];rfl
  have hk1:W2.cell? ⟨W.heap.size,1,none⟩=some (.int .i64 b):=by rw[jB hbx];rfl
  obtain⟨W3,hrun,H4,H5⟩:=HS.out W2.drew H2.out.drew
  have HE:Hid (WO C W3 p F D vs gk m∧Fr F W W3):=⟨H4,Fr.pre (Fr.pre (H0.out _).2.drew H3.out).drew H5⟩
  clear H4 H5 hbx HS
  go_wp2_with fail
  go_region
  go_wp2_with fail
  go_ret
  exact⟨rfl,HE.out.1,HE.out.2⟩
 ·have HL1:=HL _ (hmo (.cells #[.int .i64 a,.int .i64 b] 162))
  clear HL hmo
  go_enter Tryz.func64,Tryz.ntmps64
  go_wp2_with fail
  go_region_held3 (fun w'=>w'.cell? ⟨p,3,none⟩=some (.map (some D.mo))∧w'.cell? ⟨W.heap.size,0,none⟩=some (.int .i64 a)∧w'.cell? ⟨W.heap.size,1,none⟩=some (.int .i64 b)∧(Instr.lookup 123 (.map (some D.mo)) (.agg #[.int .i64 (a:Nat),.int .i64 (b:Nat)]) true).run Tryz.prog w'=.ok (.tuple #[.int .i64 (isg (x - y)),.bool true]) w')
   (first | (refine⟨by go_keep,by go_keep,by go_keep,?_⟩;first | assumption | exact HL1)) (fail)
  go_wp2_with fail
  go_ret
  exact⟨rfl,(H0.out _).1,(H0.out _).2⟩
theorem cmp_calls:∀ (N a b:Nat) (x y:Int),a+b≤N→vs[a]? = some x→vs[b]? = some y→CmpC C p F D vs gk m a b x y:=by
 intro N
 induction N using Nat.strongRecOn with
 | _ N ih =>
 intro a b x y hN ha hb
 rcases Nat.lt_trichotomy a b with h | rfl | h
 ·exact cmp_less h ha hb fun i j e f hi hj he hf=>ih (i+j) (by omega) i j e f (jR _) he hf
 ·rw[ha] at hb; cases hb; exact cmp_self _ _ _ _ _ _ _ _ _
 ·exact cmp_swap h (cmp_less h hb ha fun i j e f hi hj he hf=>ih (i+j) (by omega) i j e f (jR _) he hf)
theorem world_cmp (ha:vs[a]? = some x)(hb:vs[b]? = some y): CmpC C p F D vs gk m a b x y :=
 cmp_calls _ a b x y (jR _) ha hb
end
end Sr
