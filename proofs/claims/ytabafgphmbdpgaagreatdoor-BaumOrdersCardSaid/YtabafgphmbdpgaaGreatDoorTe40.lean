/- Texts of this claim, joined: RRd, RPw, RFst, RRedP, RRed. -/
import Derived.Test.YtabafgphmbdpgaaGreatDoorTe1
import Derived.Test.YtabafgphmbdpgaaGreatDoorTe23
import Derived.Test.YtabafgphmbdpgaaGreatDoorTe25
import Derived.Test.YtabafgphmbdpgaaGreatDoorTe26
import Derived.Test.YtabafgphmbdpgaaGreatDoorTe27
import Derived.Test.YtabafgphmbdpgaaGreatDoorTe37
import Derived.Test.YtabafgphmbdpgaaGreatDoorTe39
import Derived.Maps.RangeWalk
set_option maxHeartbeats 8000000
set_option maxRecDepth 100000
namespace Sr
open Go Go.Proofs Go.RowKit Go.Maps Go.WideMaps
section
theorem cOf1_calls {b:Nat}{W:World}{c p:Nat}{fv:Value}{fl:List Value}{vs:List Int}{full:Bool}(H:RC b W c p fv fl vs full): Calls Tryz.prog 71 #[.pointer (some ⟨p,0,none⟩),.int .i64 1] W (RNQ b W c p fv fl vs full 1):=by
 obtain⟨C,hC,hw⟩:=H.rw
 exact (rOf1_calls hw).mono (fun e w1 ⟨q,fv',fl',vs',h1,h2,h3⟩=>⟨q,fv',fl',vs',h1,H.put h2.out hC,h3⟩)
theorem cNeg_calls {b:Nat}{W:World}{c p:Nat}{fv:Value}{fl:List Value}{vs:List Int}{full:Bool}(H:RC b W c p fv fl vs full){i:Nat}{x:Int}(hi:vs[i]? = some x)(hb:b+1≤5000000000000):
 Calls Tryz.prog 72 #[.pointer (some ⟨p,0,none⟩),.int .i64 (i:Nat)] W (RNQ (b+1) W c p fv fl vs full (-x)):=by
 obtain⟨C,hC,hw⟩:=H.rw
 have hw2:=hw.weaken (C':=C++[-x]) (fun v hv=>.inl (List.mem_append.2 (.inl hv))) (by rw[List.length_append];simp; omega)
 exact (rNeg_calls hw2 hi (by simp)).mono (fun e w1 ⟨q,fv',fl',vs',h1,h2,h3⟩=>⟨q,fv',fl',vs',h1,H.put h2.out (by rw[List.length_append];simp; omega),h3⟩)
variable {o:List UInt8} {k:Nat}
theorem rd_a2 {G:List E3}{g:E3}: rdStep (o,G++[g]) 97=(o,G++[timesE g ⟨1,0,0⟩]):=by
 unfold rdStep; simp
theorem rd_A2 {G:List E3}{g:E3}: rdStep (o,G++[g]) 65=(o,G++[timesE g ⟨-1,0,0⟩]):=by
 unfold rdStep; simp
theorem rd_b2 {G:List E3}{g:E3}{c:UInt8}(h1:c≠97)(h2:c≠65): rdStep (o,G++[g]) c=(o++[c],G++[g]++[Zero]):=by
 unfold rdStep; simp[h1,h2]
theorem powA_eok {n:Int}(hn:n.natAbs≤1000): EOK (powA n):=by
 have h:=(powA_ok (n:=0) (by decide) 1 (.inl rfl))
 have:EOK (plainE n 0 0):=plainE_ok (zW (Nat.le_trans hn (by unfold B289; decide)) (by decide)) jX
 exact this
theorem mulA {n s:Int}(hn:n.natAbs≤1000)(hs:s=1∨s = -1): MSz 400 false (powA n) ⟨s,0,0⟩∧mulF false (powA n) ⟨s,0,0⟩=powA (n+s)∧fullF false (powA n) ⟨s,0,0⟩=false:=by
 have hal:allowed s:=qC (by rcases hs with rfl | rfl <;>decide)
 have h:=fullF_false (powA_ok hn s hs)
 refine⟨MSz.first (powA_eok hn) ((Sz.of_allowed hal).mono (by omega) (by omega) (by omega)) jX (Sz.zero _ _ _) (fun _=>hal),?_,h.1⟩
 rw[h.2,ze n s hs]
theorem AllA.last {G:List E3}{g:E3}(h:AllA k (G++[g])): ∃ n:Int,g=powA n∧n.natAbs≤k:=h G.length g (by simp)
theorem AllA.mul {G:List E3}{g:E3}(h:AllA k (G++[g])){n s:Int}(hn:n.natAbs≤k)(hs:s=1∨s = -1): AllA (k+1) (G++[powA (n+s)]):=fun j y hy=>by
 rcases Nat.lt_or_ge j G.length with hlt | hge
 ·rw[List.getElem?_append_left hlt] at hy
  obtain⟨m,h1,h2⟩:=h j y (by rw[List.getElem?_append_left hlt];exact hy)
  exact⟨m,h1,by omega⟩
 ·rw[List.getElem?_append_right hge] at hy
  have e2:j - G.length=0:=by have:=(jL hy).1; simp at this; omega
  rw[e2] at hy; simp at hy; subst hy
  exact⟨n+s,rfl,by rcases hs with rfl | rfl <;>omega⟩
theorem push_list {so s:ByteArray}{x:UInt8}(h:s.data.toList[k]? = some x): (so++s.extract k (k+1)).data.toList=so.data.toList++[x]:=by
 have h1:(s.extract k (k+1)).data.toList=[x]:=by
  simp only[ByteArray.data_extract,Array.toList_extract,List.extract]
  rw[show k+1 - k=1 by omega,List.take_one,List.head?_drop,h];rfl
 rw[ByteArray.data_append,Array.toList_append,h1]
theorem RK.kept {b:Nat}{W W' W2:World}{c p:Nat}{fv fv':Value}{fl fl':List Value}{vs vs':List Int}{full':Bool}(h:RK b W W' c p fv fv' fl fl' vs vs' full')(hb:Below W.heap.size W' W2)(hT:∀ (q:Nat) (cs:Array Value) (T:TypeId),W'.heap[q]? = some (.cells cs T (0,0))→T≠35→W2.heap[q]? = W'.heap[q]?): RK b W W2 c p fv fv' fl fl' vs vs' full':=by
 refine⟨⟨?_,(hT _ _ _ h.rc.obj (by decide)).trans h.rc.obj⟩,h.ext,⟨hb.os.trans h.fr.os,hb.tape.trans h.fr.tape,hb.output.trans h.fr.output,Nat.le_trans h.fr.size hb.size,fun q hq hn=>(hb.block q hq).trans (h.fr.block q hq hn)⟩,h.fvb⟩
 obtain⟨C,h1,h2⟩:=h.rc.rw
 refine⟨C,h1,h2.kept fun q hq=>?_⟩
 obtain⟨cs,T,hc,ht⟩:=h2.btype hq
 exact hT q cs T hc (by rcases ht with rfl | rfl | rfl <;>decide)
structure RdS (W w:World)(B D b c p:Nat)(fv0 fv:Value)(fl0 fl:List Value)(vs0 vs:List Int)(q1:Nat)(so:ByteArray)(a:Option Addr)(n cc:Nat)(L:List N3)(G:List E3)(g:E3)(gu gv gm:Nat): Prop where
 rk:RK b W w c p fv0 fv fl0 fl vs0 vs false
 one:vs[q1]? = some 1
 b0:w.heap[B]? = some (.cells #[.string ⟨#[]⟩,.slice none 0 0] 78 (0,0))
 b1:w.heap[B+1]? = some (.cells #[.string so,.slice a n cc] 78 (0,0))
 row:NRow w (.slice a n cc) L
 own:∀ q,(Value.slice a n cc).ownBlock=some q→W.heap.size≤q∧q≠D
 at_:AtL vs L G
 gb:w.heap[D]? = some (.cells #[.int .i64 (gu:Nat),.int .i64 (gv:Nat),.int .i64 (gm:Nat)] 35 (0,0))
 gat:AtE vs g gu gv gm
 hB:W.heap.size≤B
 hD:W.heap.size≤D
section
variable {W w w':World} {B D b b' c p:Nat} {fv0 fv fv':Value} {fl0 fl fl':List Value} {vs0 vs vs':List Int} {q1:Nat} {so:ByteArray} {a:Option Addr} {n cc:Nat} {L:List N3} {G:List E3} {g:E3} {gu gv gm:Nat}
theorem RdS.call (h:RdS W w B D b c p fv0 fv fl0 fl vs0 vs q1 so a n cc L G g gu gv gm)(k:RK b' w w' c p fv fv' fl fl' vs vs' false): RdS W w' B D b' c p fv0 fv' fl0 fl' vs0 vs' q1 so a n cc L G g gu gv gm:={
 rk:=h.rk.trans k
 one:=jW k.ext h.one
 b0:=jd h.rk.rc k h.b0 (by decide) (by decide) (by decide)
 b1:=jd h.rk.rc k h.b1 (by decide) (by decide) (by decide)
 row:=qP h.row fun q hq=>by
  obtain⟨cs,hc⟩:=jl h.row hq
  rw[hc];exact jd h.rk.rc k hc (by decide) (by decide) (by decide)
 own:=h.own
 at_:=h.at_.ext k.ext
 gb:=jd h.rk.rc k h.gb (by decide) (by decide) (by decide)
 gat:=h.gat.ext k.ext
 hB:=h.hB,hD:=h.hD }
theorem RdS.below (h:RdS W w B D b c p fv0 fv fl0 fl vs0 vs q1 so a n cc L G g gu gv gm)(k:Below w.heap.size w w'): RdS W w' B D b c p fv0 fv fl0 fl vs0 vs q1 so a n cc L G g gu gv gm:={
 rk:=h.rk.post k,one:=h.one,b0:=Below.here k h.b0,b1:=Below.here k h.b1,row:=h.row.below k,own:=h.own,at_:=h.at_,gb:=Below.here k h.gb,gat:=h.gat,hB:=h.hB,hD:=h.hD }
theorem RdS.mono (h:RdS W w B D b c p fv0 fv fl0 fl vs0 vs q1 so a n cc L G g gu gv gm)(hb:b≤b'): RdS W w B D b' c p fv0 fv fl0 fl vs0 vs q1 so a n cc L G g gu gv gm:={
 rk:=h.rk.mono hb,one:=h.one,b0:=h.b0,b1:=h.b1,row:=h.row,own:=h.own,at_:=h.at_,gb:=h.gb,gat:=h.gat,hB:=h.hB,hD:=h.hD }
theorem RdS.setg (h:RdS W w B D b c p fv0 fv fl0 fl vs0 vs q1 so a n cc L G g gu gv gm){g':E3}{iu iv im:Nat}(hg:AtE vs g' iu iv im): RdS W (Sr.set3 w D (.int .i64 (iu:Nat)) (.int .i64 (iv:Nat)) (.int .i64 (im:Nat))) B D b c p fv0 fv fl0 fl vs0 vs q1 so a n cc L G g' iu iv im:={
 rk:=h.rk.set3 h.gb h.hD _ _ _
 one:=h.one
 b0:=(ji w (jI h.b0 h.gb (by decide)) _ _ _).trans h.b0
 b1:=(ji w (jI h.b1 h.gb (by decide)) _ _ _).trans h.b1
 row:=qP h.row fun q hq=>ji w (h.own q hq).2 _ _ _
 own:=h.own,at_:=h.at_
 gb:=z7 h.gb
 gat:=hg,hB:=h.hB,hD:=h.hD }
theorem RdS.sets (h:RdS W w B D b c p fv0 fv fl0 fl vs0 vs q1 so a n cc L G g gu gv gm)(so':ByteArray): RdS W (w.setCell ⟨B+1,0,none⟩ (.string so')) B D b c p fv0 fv fl0 fl vs0 vs q1 so' a n cc L G g gu gv gm:={
 rk:=(h.rk.setT h.b1 (by decide) (Nat.le_succ_of_le h.hB) 0 _).1
 one:=h.one
 b0:=(jS _ _ _ _ (by show B≠B+1; omega)).trans h.b0
 b1:=heap_setCell_same w (B+1) 0 _ 78 _ h.b1
 row:=qP h.row fun q hq=>by
  obtain⟨cs,hc⟩:=jl h.row hq
  exact jS _ _ _ _ (by show q≠B+1; exact jI hc h.b1 (by decide))
 own:=h.own,at_:=h.at_
 gb:=(jS _ _ _ _ (by show D≠B+1; exact jI h.gb h.b1 (by decide))).trans h.gb
 gat:=h.gat,hB:=h.hB,hD:=h.hD }
theorem RdS.mid (h:RdS W w B D b c p fv0 fv fl0 fl vs0 vs q1 so a n cc L G g gu gv gm)(Gr:w.grownBy w' (Value.slice a n cc).ownBlock): w'.heap[B+1]? = some (.cells #[.string so,.slice a n cc] 78 (0,0)):=by
 refine (Gr.block (B+1) (jA h.b1).1 fun e=>?_).trans h.b1
 obtain⟨cs,hc⟩:=jl h.row e.symm
 exact jI h.b1 hc (by decide) rfl
theorem RdS.app (h:RdS W w B D b c p fv0 fv fl0 fl vs0 vs q1 so a n cc L G g gu gv gm){a':Option Addr}{n' cc':Nat}{t:N3}{x:E3}(N:NRow w' (.slice a' n' cc') (L++[t]))(Gr:w.grownBy w' (Value.slice a n cc).ownBlock)(A:∀ k,a'=some k→(Value.slice a n cc).ownBlock=some k.block∨k.block=w.heap.size)(ht:AtE vs x t.1 t.2.1 t.2.2):
 RdS W (w'.setCell ⟨B+1,1,none⟩ (.slice a' n' cc')) B D b c p fv0 fv fl0 fl vs0 vs q1 so a' n' cc' (L++[t]) (G++[x]) g gu gv gm:=by
 have hm:=h.mid Gr
 have hbl:Below W.heap.size w w':=j9 Gr (fun q hq=>(h.own q hq).1) h.rk.fr.size
 have hT:∀ (q:Nat) (cs:Array Value) (T:TypeId),w.heap[q]? = some (.cells cs T (0,0))→T≠35→w'.heap[q]? = w.heap[q]?:=fun q cs T hq ht=>Gr.block q (jA hq).1 fun e=>by
  obtain⟨cs',hc⟩:=jl h.row e.symm
  exact jI hq hc ht rfl
 have hDn:w'.heap[D]? = w.heap[D]?:=Gr.block D (jA h.gb).1 fun e=>(h.own D e.symm).2 rfl
 have hrk:=h.rk.kept hbl hT
 exact {
  rk:=(hrk.setT hm (by decide) (Nat.le_succ_of_le h.hB) 1 _).1
  one:=h.one
  b0:=(jS _ _ _ _ (by show B≠B+1; omega)).trans ((hT _ _ _ h.b0 (by decide)).trans h.b0)
  b1:=heap_setCell_same w' (B+1) 1 _ 78 _ hm
  row:=qP N fun q hq=>by
   obtain⟨cs,hc⟩:=jl N hq
   exact jS _ _ _ _ (by show q≠B+1; exact jI hc hm (by decide))
  own:=fun q hq=>by
   obtain⟨k,e,rfl⟩:=own_slice hq
   rcases A k e with h1 | h1
   ·exact h.own _ h1
   ·have:=(jA h.gb).1
    have:=h.rk.fr.size
    exact⟨by omega,by omega⟩
  at_:=h.at_.app (AtL.one (a:=t.1) (b:=t.2.1) (c:=t.2.2) ht)
  gb:=(jS _ _ _ _ (by show D≠B+1; exact jI h.gb h.b1 (by decide))).trans (hDn.trans h.gb)
  gat:=h.gat,hB:=h.hB,hD:=h.hD }
theorem RdS.cells (h:RdS W w B D b c p fv0 fv fl0 fl vs0 vs q1 so a n cc L G g gu gv gm): w.cell? ⟨c,0,none⟩=some (.pointer (some ⟨p,0,none⟩))∧w.cell? ⟨D,0,none⟩=some (.int .i64 (gu:Nat))∧w.cell? ⟨D,1,none⟩=some (.int .i64 (gv:Nat))∧w.cell? ⟨D,2,none⟩=some (.int .i64 (gm:Nat)) :=
 ⟨h.rk.rc.c0,by rw[jB h.gb];rfl,by rw[jB h.gb];rfl,by rw[jB h.gb];rfl⟩
end
theorem rread_calls {b:Nat}{W:World}{c p:Nat}{fv:Value}{fl:List Value}{vs:List Int}(H:RC b W c p fv fl vs false){s:ByteArray}(hs:s.size≤130)(hw:isLt s.data.toList=true)(hb:b+21000000000*s.size≤5000000000000):
 Calls Tryz.prog 34 #[.pointer (some ⟨c,0,none⟩),.string s] W fun e W' =>
  ∃ (s':ByteArray) (gv':Value) (l':List N3) (fv':Value) (fl':List Value) (vs':List Int),e=.returned (.agg #[.string s',gv'])∧Hid (s'.data.toList=(readE s.data.toList).1)∧Hid (s'.size≤s.size)∧Hid (PR 0 W' vs' gv' l' (readE s.data.toList).2)∧Hid (AllA s.size (readE s.data.toList).2)∧Hid (RK (b+21000000000*(s.size - s'.size)) W W' c p fv fv' fl fl' vs vs' false):=by
 obtain⟨W1,B,hW1,hB,HS1⟩:∃ W1 B,(W.alloc (.cells #[.string ⟨#[]⟩,.slice none 0 0] 78)).alloc (.cells #[.string ⟨#[]⟩,.slice none 0 0] 78)=W1∧W.heap.size=B∧Hid (RC b W1 c p fv fl vs false∧Below W.heap.size W W1∧W1.heap[B]? = some (.cells #[.string ⟨#[]⟩,.slice none 0 0] 78 (0,0))∧W1.heap[B+1]? = some (.cells #[.string ⟨#[]⟩,.slice none 0 0] 78 (0,0))):=by
  have hbl:Below W.heap.size W ((W.alloc (.cells #[.string ⟨#[]⟩,.slice none 0 0] 78)).alloc (.cells #[.string ⟨#[]⟩,.slice none 0 0] 78)):=((Below.refl _ _).alloc (jR _) _).alloc (by simp) _
  exact⟨_,_,rfl,rfl,H.below hbl,hbl,qU W _ _,qA W _ _⟩
 have hO:=cOf1_calls HS1.out.1
 have c0:=HS1.out.1.c0
 have HB0:=jH hB
 have o0:W1.cell? ⟨B+1,0,none⟩=some (.string ⟨#[]⟩):=by rw[jB HS1.out.2.2.2];rfl
 have o1:W1.cell? ⟨B+1,1,none⟩=some (.slice none 0 0):=by rw[jB HS1.out.2.2.2];rfl
 have e1:W1.setCell ⟨B+1,0,none⟩ (.string ⟨#[]⟩)=W1:=jq o0
 have e2:W1.setCell ⟨B+1,1,none⟩ (.slice none 0 0)=W1:=jq o1
 have fo:=fun o=>jF HS1.out.2.2.2 o
 have Hw:=jH hw
 have Hb:=jH hb
 clear H hw hb
 go_enter Tryz.func34,Tryz.ntmps34
 go_wp2_with fail
 refine hO.mono ?_
 rintro e w2 ⟨q1,fv1,fl1,vs1,rfl,hk1,hq1⟩
 obtain⟨D,hD⟩:∃ D,w2.heap.size=D:=⟨_,rfl⟩
 obtain⟨W2,hW2⟩:∃ W2,w2.alloc (.cells #[.int .i64 0,.int .i64 0,.int .i64 0] 35)=W2:=⟨_,rfl⟩
 have HS2:Hid (RdS W W2 B D b c p fv fv1 fl fl1 vs vs1 q1 ⟨#[]⟩ none 0 0 [] [] Zero 0 0 0):=by
  show RdS _ _ _ _ _ _ _ _ _ _ _ _ _ _ _ _ _ _ _ _ _ _ _ _
  have hbl:Below w2.heap.size w2 W2:=by rw[← hW2];exact (jV w2 _).out
  have h0:=HS1.out
  have hz:=hk1.out.rc.wv.zero
  have hsz:W.heap.size≤w2.heap.size:=Nat.le_trans h0.2.1.size hk1.out.fr.size
  exact {
   rk:=(hk1.out.pre h0.2.1).post hbl
   one:=hq1.out
   b0:=Below.here hbl (jd h0.1 hk1.out h0.2.2.1 (by decide) (by decide) (by decide))
   b1:=Below.here hbl (jd h0.1 hk1.out h0.2.2.2 (by decide) (by decide) (by decide))
   row:=NRow.nil _
   own:=fun q h=>by simp[Value.ownBlock] at h
   at_:=AtL.nil _
   gb:=by rw[← hW2,← hD];exact jD w2 _
   gat:=⟨hz,hz,hz⟩
   hB:=by rw[← HB0.out];exact jR _
   hD:=by rw[← hD];exact hsz }
 clear hO hk1 c0 e1 e2 o0 o1 fo
 have o0:W2.cell? ⟨D,0,none⟩=some (.int .i64 0):=by rw[jB HS2.out.gb];rfl
 have o1:W2.cell? ⟨D,1,none⟩=some (.int .i64 0):=by rw[jB HS2.out.gb];rfl
 have o2:W2.cell? ⟨D,2,none⟩=some (.int .i64 0):=by rw[jB HS2.out.gb];rfl
 have e1:W2.setCell ⟨D,0,none⟩ (.int .i64 0)=W2:=jq o0
 have e2:W2.setCell ⟨D,1,none⟩ (.int .i64 0)=W2:=jq o1
 have e3:W2.setCell ⟨D,2,none⟩ (.int .i64 0)=W2:=jq o2
 have fo:=fun o=>jF HS2.out.gb o
 go_wp2_with fail
 go_loopg [8] s.size (fun g1 kv wr=>∃ (k:Nat) (so:ByteArray) (a:Option Addr) (n cc:Nat) (L:List N3) (G:List E3) (g:E3) (gu gv gm:Nat) (fv':Value) (fl':List Value) (vs':List Int),kv=.int .i64 k∧k≤s.size∧s.size - k≤g1∧Hid ((s.data.toList.take k).foldl rdStep ([],[Zero])=(so.data.toList,G++[g]))∧Hid (AllA k (G++[g]))∧Hid (so.size≤k)∧Hid (RdS W wr B D (b+21000000000*(k - so.size)) c p fv fv' fl fl' vs vs' q1 so a n cc L G g gu gv gm))
 case atStart=>exact⟨0,⟨#[]⟩,none,0,0,[],[],Zero,0,0,0,fv1,fl1,vs1,rfl,by omega,by omega,rfl,AllA.zero,Nat.zero_le _,HS2⟩
 case round =>
  obtain⟨k,so,a,n,cc,L,G,g,gu,gv,gm,fv',fl',vs',rfl,hks,hg,HSt,HAA,HSo,HR⟩:=hrel
  by_cases hk:k<s.size
  ·have hkz:(k:Int)<(s.size:Int):=by omega
   have hk0:(0:Int)≤(k:Int):=Int.natCast_nonneg k
   have hkw:IntKind.i64.wrap ((k:Int)+1)=(k:Int)+1:=IntWalk.i64_in _ (by omega)
   obtain⟨x,hc⟩:∃ c,s.data.toList[k]? = some c:=⟨_,jG (by simpa using hk)⟩
   have hsk:s[k]=x:=by
    have h:=(jL hc).2
    rw[← h];rfl
   have HT1:Hid ((s.data.toList.take (k+1)).foldl rdStep ([],[Zero])=rdStep (so.data.toList,G++[g]) x):=by
    show _=_; rw[List.take_add_one,hc,Option.toList_some,List.foldl_append,HSt.out];rfl
   have hx4:=zQ.1 Hw.out x (jM hc)
   obtain⟨nn,hgn,hnn⟩:=HAA.out.last
   subst hgn
   have Hnn:=jH hnn
   have Hso:=HSo.out
   have hb:=Hb.out
   have HBb:Hid (b+21000000000*(k - so.size)+20600000000≤5000000000000):=by
    show _≤_
    have:21000000000*(k - so.size)+21000000000≤21000000000*s.size:=by omega
    omega
   have HBn:Hid (b+21000000000*(k - so.size)+20600000000≤b+21000000000*(k+1 - so.size)):=by show _≤_; omega
   have o0:wr.cell? ⟨D,0,none⟩=some (.int .i64 (gu:Nat)):=by rw[jB HR.out.gb];rfl
   have o1:wr.cell? ⟨D,1,none⟩=some (.int .i64 (gv:Nat)):=by rw[jB HR.out.gb];rfl
   have o2:wr.cell? ⟨D,2,none⟩=some (.int .i64 (gm:Nat)):=by rw[jB HR.out.gb];rfl
   have c0:=HR.out.rk.rc.c0
   have Hc:=jH hc
   clear hc hb hnn Hso
   rcases hx4 with rfl | rfl | hx4
   ·have hM:=yT (x:=powA nn) (y:=⟨1,0,0⟩) HR.out.rk.rc HR.out.gat ⟨HR.out.one,HR.out.rk.rc.wv.zero,HR.out.rk.rc.wv.zero⟩ (mulA (by have:=Hnn.out; omega) (.inl rfl)).1 (by have:=HBb.out; omega)
    go_wp2_with fail
    refine hM.mono ?_
    rintro e w2 ⟨ku,kv,km,fv2,fl2,vs2,rfl,hk2,ha2⟩
    have Hm:=jH (mulA (n:=nn) (s:=1) (by have:=Hnn.out; omega) (.inl rfl))
    have HR2:=jH (HR.out.call (by have:=hk2.out; rw[Hm.out.2.2] at this; exact this))
    have HA2:Hid (AtE vs2 (powA (nn+1)) ku kv km):=by show AtE _ _ _ _ _; rw[← Hm.out.2.1];exact ha2.out
    clear hM hk2 ha2 o0 o1 o2 c0
    have o0:w2.cell? ⟨D,0,none⟩=some (.int .i64 (gu:Nat)):=by rw[jB HR2.out.gb];rfl
    have o1:w2.cell? ⟨D,1,none⟩=some (.int .i64 (gv:Nat)):=by rw[jB HR2.out.gb];rfl
    have o2:w2.cell? ⟨D,2,none⟩=some (.int .i64 (gm:Nat)):=by rw[jB HR2.out.gb];rfl
    have fo:=fun o=>jF HR2.out.gb o
    go_wp2_with fail
    go_roundg (s.size - (k+1))
    case measure=>omega
    case rel=>exact⟨k+1,so,a,n,cc,L,G,powA (nn+1),ku,kv,km,fv2,fl2,vs2,by go_num,by omega,by omega,HT1.out.trans (by rw[rd_a2,ze nn 1 (.inl rfl)]),HAA.out.mul Hnn.out (.inl rfl),Nat.le_succ_of_le HSo.out,(HR2.out.setg HA2.out).mono (by have:=HBn.out; omega)⟩
   ·have hN:=fun M=>cNeg_calls (HR.out.rk.rc.below (jN wr M)) HR.out.one (by have:=HBb.out; omega)
    go_wp2_with fail
    refine qw (S:=fun w'=>w'.cell? ⟨c,0,none⟩=some (.pointer (some ⟨p,0,none⟩))∧w'.cell? ⟨D,0,none⟩=some (.int .i64 (gu:Nat))∧w'.cell? ⟨D,1,none⟩=some (.int .i64 (gv:Nat))∧w'.cell? ⟨D,2,none⟩=some (.int .i64 (gm:Nat))) (late:=[10]) (by kernel_rfl) ?_ (fun hHeld=>?_)
    ·
     exact⟨c0,o0,o1,o2⟩
    refine jC (i:=0) (v:=?_) rfl (by kernel_rfl) (by kernel_rfl) (by kernel_rfl) (by kernel_rfl) (by kernel_rfl) (fun _ _ _ h=>h) (Or.inl ⟨by rfl,?_⟩) (by assumption) ?_
    rotate_left
    ·(intro w hSw; (try dsimp only at hSw);go_simp)
     all_goals with_reducible rfl
    try go_frame
    refine jC (i:=1) (v:=?_) rfl (by kernel_rfl) (by kernel_rfl) (by kernel_rfl) (by kernel_rfl) (by kernel_rfl) (fun _ _ _ h=>h) (Or.inl ⟨by rfl,?_⟩) (by assumption) ?_
    rotate_left
    ·(intro w hSw; (try dsimp only at hSw);go_simp)
     all_goals with_reducible rfl
    try go_frame
    refine jC (i:=2) (v:=?_) rfl (by kernel_rfl) (by kernel_rfl) (by kernel_rfl) (by kernel_rfl) (by kernel_rfl) (fun _ _ _ h=>h) (Or.inl ⟨by rfl,?_⟩) (by assumption) ?_
    rotate_left
    ·(intro w hSw; (try dsimp only at hSw);go_simp)
     all_goals with_reducible rfl
    try go_frame
    refine jC (i:=3) (v:=?_) rfl (by kernel_rfl) (by kernel_rfl) (by kernel_rfl) (by kernel_rfl) (by kernel_rfl) (fun _ _ _ h=>h) (Or.inl ⟨by rfl,?_⟩) (by assumption) ?_
    rotate_left
    ·(intro w hSw; (try dsimp only at hSw);go_simp)
     all_goals with_reducible rfl
    try go_frame
    refine jC (i:=4) (v:=?_) rfl (by kernel_rfl) (by kernel_rfl) (by kernel_rfl) (by kernel_rfl) (by kernel_rfl) (fun _ _ _ h=>h) (Or.inl ⟨by rfl,?_⟩) (by assumption) ?_
    rotate_left
    ·(intro w hSw; (try dsimp only at hSw);go_simp)
     all_goals with_reducible rfl
    try go_frame
    refine jC (i:=5) (v:=?_) rfl (by kernel_rfl) (by kernel_rfl) (by kernel_rfl) (by kernel_rfl) (by kernel_rfl) (fun _ _ _ h=>h) (Or.inl ⟨by rfl,?_⟩) (by assumption) ?_
    rotate_left
    ·(intro w hSw; (try dsimp only at hSw);go_simp)
     all_goals with_reducible rfl
    try go_frame
    refine jC (i:=6) (v:=?_) rfl (by kernel_rfl) (by kernel_rfl) (by kernel_rfl) (by kernel_rfl) (by kernel_rfl) (fun _ _ _ h=>h) (Or.inl ⟨by rfl,?_⟩) (by assumption) ?_
    rotate_left
    ·(intro w hSw; (try dsimp only at hSw);go_simp)
     all_goals with_reducible rfl
    try go_frame
    refine qJ (i:=7) rfl (by kernel_rfl) (fun K hK=>?_)
    go_simp
    go_wp2_with (
     go_at_call 72
     refine (hN _).mono ?_
     rintro e1 w2 ⟨q2,fv2,fl2,vs2,rfl,hk2,hq2⟩
     have Hm:=jH (mulA (n:=nn) (s:=-1) (by have:=Hnn.out; omega) (.inr rfl))
     have HR2:=jH ((HR.out.call (hk2.out.pre (jN wr _))).mono (Nat.add_le_add_left (show 1≤500000000 by decide) _))
     have hM:=yT (x:=powA nn) (y:=⟨-1,0,0⟩) HR2.out.rk.rc HR2.out.gat ⟨hq2.out,HR2.out.rk.rc.wv.zero,HR2.out.rk.rc.wv.zero⟩ Hm.out.1 (by have:=HBb.out; omega)
     have HS2:=jH (HR2.out.cells)
     clear hk2 hq2
     )
    refine hK.out _ _ ?_ (fun hHeld1=>?_)
    ·
     exact HS2.out
    clear hK K hHeld
    try go_frame
    refine jC (i:=8) (v:=?_) rfl (by kernel_rfl) (by kernel_rfl) (by kernel_rfl) (by kernel_rfl) (by kernel_rfl) (fun _ _ _ h=>h) (Or.inl ⟨by rfl,?_⟩) (by assumption) ?_
    rotate_left
    ·(intro w hSw; (try dsimp only at hSw);go_simp)
     all_goals with_reducible rfl
    try go_frame
    refine qJ (i:=9) rfl (by kernel_rfl) (fun K hK=>?_)
    go_simp
    go_wp2_with (
     go_at_call 40
     refine hM.mono ?_
     rintro e2 w3 ⟨ku,kv,km,fv3,fl3,vs3,rfl,hk3,ha3⟩
     have HR3:=jH (HR2.out.call (by have:=hk3.out; rw[Hm.out.2.2] at this; exact this))
     have HA3:Hid (AtE vs3 (powA (nn+-1)) ku kv km):=by show AtE _ _ _ _ _; rw[← Hm.out.2.1];exact ha3.out
     have HS3:=jH (HR3.out.cells)
     have fp:=fun o=>jF HR3.out.gb o
     have p0:=HS3.out.2.1
     have p1:=HS3.out.2.2.1
     have p2:=HS3.out.2.2.2
     clear hk3 ha3 hM
     )
    refine hK.out _ _ ?_ (fun hHeld2=>?_)
    ·
     exact HS3.out
    clear hK K hHeld1
    try go_frame
    refine zH (i:=10) rfl (by kernel_rfl) rfl (fun K hK=>?_)
    go_simp
    refine hK.out _ _ ?_
    clear hK K
    try go_frame
    refine zZ (by kernel_rfl) ?_ _
    all_goals
     go_wp2_with fail
     go_roundg (s.size - (k+1))
     case measure=>omega
     case rel=>exact⟨k+1,so,a,n,cc,L,G,powA (nn+-1),ku,kv,km,fv3,fl3,vs3,by go_num,by omega,by omega,HT1.out.trans (by rw[rd_A2,ze nn (-1) (.inr rfl)]),HAA.out.mul Hnn.out (.inr rfl),Nat.le_succ_of_le HSo.out,(HR3.out.setg HA3.out).mono (by have:=HBn.out; omega)⟩
   ·have hxx:x≠97∧x≠65:=by rcases hx4 with rfl | rfl <;>decide
    have m1:decide ((x.toNat:Int)=97)=false:=by
     simp only[decide_eq_false_iff_not];intro h; exact hxx.1 (UInt8.toNat_inj.1 (by show _=97; omega))
    have m2:decide ((x.toNat:Int)=65)=false:=by
     simp only[decide_eq_false_iff_not];intro h; exact hxx.2 (UInt8.toNat_inj.1 (by show _=65; omega))
    have m3:((x.toNat:Int)==97)=false:=by simpa using m1
    have m4:((x.toNat:Int)==65)=false:=by simpa using m2
    have HT2:Hid ((s.data.toList.take (k+1)).foldl rdStep ([],[Zero])=(so.data.toList++[x],G++[powA nn]++[Zero])):=HT1.out.trans (rd_b2 hxx.1 hxx.2)
    clear hx4 hxx
    have b0:wr.cell? ⟨B+1,0,none⟩=some (.string so):=by rw[jB HR.out.b1];rfl
    have fb:=fun o=>jF HR.out.b1 o
    have j1:(k:Int)≤(s.size:Int):=by omega
    have j2:(k:Int)+1≤(s.size:Int):=by omega
    have j3:¬ (9223372036854775807<so.size+(s.extract k (k+1)).size):=by
     have:=HSo.out
     rw[ByteArray.size_extract];omega
    go_wp2_with fail
    go_region
    obtain⟨O,hO⟩:∃ O,O=so++s.extract k (k+1):=⟨_,rfl⟩
    have HO:Hid (O.data.toList=so.data.toList++[x]):=by show _=_; rw[hO];exact push_list Hc.out
    rw[← hO]
    obtain⟨w8,hw8⟩:∃ w8,w8=(wr.setCell ⟨B+1,0,none⟩ (.string O)).drew:=⟨_,rfl⟩
    have HR8:Hid (RdS W w8 B D (b+21000000000*(k - so.size)) c p fv fv' fl fl' vs vs' q1 O a n cc L G (powA nn) gu gv gm):=by
     show RdS _ _ _ _ _ _ _ _ _ _ _ _ _ _ _ _ _ _ _ _ _ _ _ _
     rw[hw8];exact (HR.out.sets O).below (jN _ 1)
    rw[← hw8]
    clear hw8 hO o0 o1 o2 c0 b0 fb j1 j2 j3
    have d1:w8.cell? ⟨B+1,1,none⟩=some (.slice a n cc):=by rw[jB HR8.out.b1];rfl
    have o0:w8.cell? ⟨D,0,none⟩=some (.int .i64 (gu:Nat)):=by rw[jB HR8.out.gb];rfl
    have o1:w8.cell? ⟨D,1,none⟩=some (.int .i64 (gv:Nat)):=by rw[jB HR8.out.gb];rfl
    have o2:w8.cell? ⟨D,2,none⟩=some (.int .i64 (gm:Nat)):=by rw[jB HR8.out.gb];rfl
    have HLl:Hid (L.length=n∧n=so.size):=by
     have h1:L.length=n:=by
      have h:=HR8.out.row
      obtain⟨h1,⟨h2,h3⟩ | ⟨g',cap',cur,e,_,_,_,_,_⟩⟩:=h
      ·cases h2; exact h3
      ·cases e; rfl
     have h2:=z8 (s.data.toList.take k) ([],[Zero]) rfl
     rw[HSt.out] at h2
     have h3:=HR8.out.at_.1
     have h4:so.data.toList.length=so.size:=by simp
     simp at h2
     exact⟨h1,by omega⟩
    have nd1:D≠B+1:=jI HR8.out.gb HR8.out.b1 (by decide)
    have nd2:B+1≠D:=Ne.symm nd1
    have hb9:n+1≤1000000:=by have:=HLl.out; have:=HSo.out; omega
    go_wp2_with (at_builtin; go_loud (refine app_N rfl (.tmp 35) (.tmp 37) rfl (.slice a n cc) L rfl (HR8.out.below (jV w8 _).out).row _ [(gu,gv,gm)] rfl (NSrc.one (jD w8 _)) (n+1) (by rw[HLl.out.1];rfl) _ rfl hb9 _ rfl ?_);intro a2 c2 w9 N9 G9 A9; have hd9:=(HR8.out.below (jV w8 _).out).mid G9; have HR9:=jH ((HR8.out.below (jV w8 _).out).app N9 G9 A9 HR8.out.gat);have fd9:=fun o=>jF hd9 o; have d9:w9.cell? ⟨B+1,1,none⟩=some (.slice a n cc):=(by rw[jB hd9];rfl);have ho9:w9.heap[D]? = some (.cells #[.int .i64 (gu:Nat),.int .i64 (gv:Nat),.int .i64 (gm:Nat)] 35 (0,0)):=((jS _ _ _ _ (jI HR9.out.gb HR9.out.b1 (by decide))).symm.trans HR9.out.gb);have fo9:=fun o=>jF ho9 o; have o9:w9.cell? ⟨D,0,none⟩=some (.int .i64 (gu:Nat)):=(by rw[jB ho9];rfl);have o10:w9.cell? ⟨D,1,none⟩=some (.int .i64 (gv:Nat)):=(by rw[jB ho9];rfl);have o11:w9.cell? ⟨D,2,none⟩=some (.int .i64 (gm:Nat)):=(by rw[jB ho9];rfl);clear N9 G9 A9 hd9 ho9)
    have HRz:=jH (HR9.out.setg (g':=Zero) ⟨HR9.out.rk.rc.wv.zero,HR9.out.rk.rc.wv.zero,HR9.out.rk.rc.wv.zero⟩)
    have HOs:Hid (O.size=so.size+1):=by
     have h1:=congrArg List.length HO.out
     show _=_
     simpa using h1
    go_roundg (s.size - (k+1))
    case measure=>omega
    case rel=>exact⟨k+1,O,a2,n+1,c2,L++[(gu,gv,gm)],G++[powA nn],Zero,0,0,0,fv',fl',vs',by go_num,by omega,by omega,HT2.out.trans (by rw[HO.out]),HAA.out.push,by have:=HOs.out; have:=HSo.out; show _≤_; omega,by
     show RdS _ _ _ _ _ _ _ _ _ _ _ _ _ _ _ _ _ _ _ _ _ _ _ _
     rw[HOs.out,Nat.add_sub_add_right]
     exact HRz.out⟩
  ·have hkn:k=s.size:=by omega
   subst hkn
   have HSt2:Hid (readE s.data.toList=(so.data.toList,G++[g])):=by
    have h:=HSt.out
    rw[List.take_of_length_le (by simp)] at h
    exact h
   have d1:wr.cell? ⟨B+1,1,none⟩=some (.slice a n cc):=by rw[jB HR.out.b1];rfl
   have o0:wr.cell? ⟨D,0,none⟩=some (.int .i64 (gu:Nat)):=by rw[jB HR.out.gb];rfl
   have o1:wr.cell? ⟨D,1,none⟩=some (.int .i64 (gv:Nat)):=by rw[jB HR.out.gb];rfl
   have o2:wr.cell? ⟨D,2,none⟩=some (.int .i64 (gm:Nat)):=by rw[jB HR.out.gb];rfl
   have HLl:Hid (L.length=n∧n=so.size):=by
    have h1:L.length=n:=by
     have h:=HR.out.row
     obtain⟨h1,⟨h2,h3⟩ | ⟨g',cap',cur,e,_,_,_,_,_⟩⟩:=h
     ·cases h2; exact h3
     ·cases e; rfl
    have h2:=z8 (s.data.toList.take s.size) ([],[Zero]) rfl
    rw[HSt.out] at h2
    have h3:=HR.out.at_.1
    have h4:so.data.toList.length=so.size:=by simp
    simp at h2
    exact⟨h1,by omega⟩
   have hb9:n+1≤1000000:=by have:=HLl.out; have:=HSo.out; omega
   have b00:wr.heap[B]? = some (.cells #[.string ⟨#[]⟩,.slice none 0 0] 78 (0,0)):=HR.out.b0
   clear hg hk
   go_wp2_with (at_builtin; go_loud (refine app_N rfl (.tmp 61) (.tmp 63) rfl (.slice a n cc) L rfl (HR.out.below (jV wr _).out).row _ [(gu,gv,gm)] rfl (NSrc.one (jD wr _)) (n+1) (by rw[HLl.out.1];rfl) _ rfl hb9 _ rfl ?_);intro a2 c2 w9 N9 G9 A9; have hd9:=(HR.out.below (jV wr _).out).mid G9; have HR9:=jH ((HR.out.below (jV wr _).out).app N9 G9 A9 HR.out.gat);have fd9:=fun o=>jF hd9 o; have d9:w9.cell? ⟨B+1,1,none⟩=some (.slice a n cc):=(by rw[jB hd9];rfl);have d8:w9.cell? ⟨B+1,0,none⟩=some (.string so):=(by rw[jB hd9];rfl);have hB9:=((jS _ _ _ _ (show B≠B+1 by omega)).symm.trans HR9.out.b0);have fB9:=fun o=>jF hB9 o; have e9:w9.cell? ⟨B,0,none⟩=some (.string ⟨#[]⟩):=(by rw[jB hB9];rfl);have e10:w9.cell? ⟨B,1,none⟩=some (.slice none 0 0):=(by rw[jB hB9];rfl);clear N9 G9 A9 hd9 hB9)
   refine bodyPost_ret (v:=.agg #[.string so,.slice a2 (n+1) c2]) (by simp[results,Tryz.results34,go_sem,e9,e10]) rfl ?_
   obtain⟨f1,e1⟩:=HR9.out.rk.setT HR9.out.b0 (by decide) HR9.out.hB 0 (.string so)
   obtain⟨f2,e2⟩:=f1.setT e1 (by decide) HR9.out.hB 1 (.slice a2 (n+1) c2)
   refine⟨so,.slice a2 (n+1) c2,L++[(gu,gv,gm)],fv',fl',vs',rfl,?_,HSo,?_,?_,f2⟩
   ·show _=_
    rw[HSt2.out]
   ·show PR _ _ _ _ _ _
    rw[HSt2.out]
    refine⟨?_,HR9.out.at_,fun _ _=>Nat.zero_le _⟩
    refine qP HR9.out.row fun q hq=>?_
    obtain⟨cs,hc⟩:=jl HR9.out.row hq
    exact (jS _ _ _ _ (by show q≠B; exact jI hc HR9.out.b0 (by decide))).trans (jS _ _ _ _ (by show q≠B; exact jI hc HR9.out.b0 (by decide)))
   ·show AllA _ _
    rw[HSt2.out];exact HAA.out
end
def RPQ (b:Nat)(W:World)(c p:Nat)(fv:Value)(fl:List Value)(vs:List Int)(full:Bool)(z:Int)(e:Ending)(W':World): Prop :=
 ∃ (q:Nat) (fv':Value) (fl':List Value) (vs':List Int),e=.returned (.int .i64 (q:Nat))∧Hid (RK b W W' c p fv fv' fl fl' vs vs' (orFull full z))∧Hid (vs'[q]? = some z)
theorem rpow_calls {b:Nat}{W:World}{c p:Nat}{fv:Value}{fl:List Value}{vs:List Int}{full:Bool}(H:RC b W c p fv fl vs full){lo:Nat}{gv:Value}{l:List N3}{G:List E3}(HP:PR lo W vs gv l G){s:ByteArray}(hlen:G.length=s.size+1)(hs:s.size≤1000000){n:Nat}(hn:n+1<s.size)(hx1:s[n]=98∨s[n]=66){g:E3}(hg:G[n+1]? = some g)(ho:EOK g)(hv:s[n]=98→g.u≠0→0≤g.v)(hb:b+600000000≤5000000000000):
 Calls Tryz.prog 36 #[.pointer (some ⟨c,0,none⟩),.agg #[.string s,gv],.int .i64 (n:Nat)] W (RPQ (b+600000000) W c p fv fl vs full (powE s[n] g)):=by
 obtain⟨gb,gc,iu,iv,im,rfl,-,hat,g0,g1,g2⟩:=HP.el hg
 have i1:((n:Int)+1).toNat=n+1:=by omega
 have i2:(0:Int)≤(n:Int)+1:=by omega
 have i4:((n:Int)+1)<(G.length:Int):=by omega
 have i5:(n:Int)<(s.size:Int):=by omega
 have i6:((n:Int)).toNat=n:=by omega
 have i7:n<s.size:=by omega
 have w2:IntKind.i64.wrap ((n:Int)+1)=(n:Int)+1:=by rw[IntKind.wrap_i64];omega
 obtain⟨x1,hc1⟩:∃ x,s[n]=x:=⟨_,rfl⟩
 rw[hc1] at hx1 hv ⊢
 have hcp:=H.c0
 have lc:=jg hcp
 have nc:c≠W.heap.size:=Nat.ne_of_lt lc
 have lg:=jg g0
 have ng:gb≠W.heap.size:=Nat.ne_of_lt lg
 have HB2:Hid (Below W.heap.size W ((W.alloc (.cells #[.string s,.slice (some ⟨gb,0,none⟩) G.length gc] 78)).alloc (.cells #[.int .i64 (iu:Nat),.int .i64 (iv:Nat),.int .i64 (im:Nat)] 35))):=((Below.refl _ W).alloc (jR _) _).alloc (by simp) _
 have H2:=jH (H.below HB2.out)
 have hNd:=qB H2.out hat.m
 have HZ:Hid ((iu=0)↔g.u=0):=H.wv.same hat.u H.wv.zero
 have HA:=jH hat
 have HV:=jH hv
 have HO:=jH ho
 have Hb:=jH hb
 clear H HP hat hg hlen hs hv ho hb
 have t1:((UInt8.toNat 98:Nat):Int)=98:=rfl
 have t2:((UInt8.toNat 66:Nat):Int)=66:=rfl
 go_enter Tryz.func36,Tryz.ntmps36
 rcases hx1 with rfl | rfl
 ·by_cases hu:g.u=0
  ·have hiu:iu=0:=HZ.out.2 hu
   subst hiu
   have Hpe:Hid (powE 98 g=0):=by show _=_; unfold powE; rw[if_pos rfl,hu];simp[shx,shl,j5,lv]
   go_wp2_with fail
   go_ret
   refine⟨0,fv,fl,vs,rfl,?_,?_⟩
   ·show RK _ _ _ _ _ _ _ _ _ _ _ _
    rw[Hpe.out,orFull_zero]
    exact ((RK.refl H2.out).pre HB2.out).mono (by omega)
   ·show _=_
    rw[Hpe.out];exact H2.out.wv.zero
  ·have hiu:¬ ((iu:Int)=0):=fun h=>hu (HZ.out.1 (by omega))
   have hiu2:decide ((iu:Int)=0)=false:=by simpa using hiu
   have hiu3:((iu:Int)==0)=false:=by simpa using hiu
   have Hpe:Hid (powE 98 g=shx g.u g.v):=by show _=_; unfold powE; rw[if_pos rfl]
   have hR:=xN (k:=600000000) H2.out HA.out.u HA.out.v (Sz.of_allowed HO.out.u) (Sz.of_allowed HO.out.v) (by omega) (by omega) (zM (HV.out rfl hu)) (by have:=sh_cost (Sz.of_allowed HO.out.u) (Sz.of_allowed HO.out.v).len; omega) Hb.out
   clear hNd
   go_wp2_with fail
   refine hR.mono ?_
   rintro e w3 ⟨q,fv3,fl3,vs3,rfl,hk3,hq3⟩
   have hNd:=qB hk3.out.rc hq3.out
   clear hR
   go_wp2_with fail
   refine hNd.mono ?_
   rintro e w4 ⟨rfl,hk4⟩
   clear hNd
   go_wp2_with fail
   go_ret
   refine⟨q,fv3,fl3,vs3,rfl,?_,?_⟩
   ·show RK _ _ _ _ _ _ _ _ _ _ _ _
    rw[Hpe.out]
    exact (hk3.out.trans hk4.out).pre HB2.out
   ·show _=_
    rw[Hpe.out];exact hq3.out
 ·have Hpe:Hid (powE 66 g=g.m):=by show _=_; unfold powE; rw[if_neg (by decide)]
  go_wp2_with fail
  refine hNd.mono ?_
  rintro e w4 ⟨rfl,hk4⟩
  clear hNd
  go_wp2_with fail
  go_ret
  refine⟨im,fv,fl,vs,rfl,?_,?_⟩
  ·show RK _ _ _ _ _ _ _ _ _ _ _ _
   rw[Hpe.out]
   exact (hk4.out.pre HB2.out).mono (by omega)
  ·show _=_
   rw[Hpe.out];exact HA.out.m
section
def FirstOK (o:List UInt8)(G:List E3)(r:Int): Prop:=(r = -1∧∀ j:Nat,pinR o G j=false)∨∃ i:Nat,r=i∧pinR o G i=true∧∀ j<i,pinR o G (j:Nat)=false
variable {G:List E3}
theorem pinR_end {o:List UInt8}{j:Nat}(h:o.length≤j): pinR o G j=false:=by
 unfold pinR; rw[decide_eq_false (by omega),Bool.false_and]
theorem rfst_calls {b:Nat}{W:World}{c p:Nat}{fv:Value}{fl:List Value}{vs:List Int}{full:Bool}(H:RC b W c p fv fl vs full){lo:Nat}{gv:Value}{l:List N3}(HP:PR lo W vs gv l G){s:ByteArray}(hlen:G.length=s.size+1)(hs:s.size≤1000000)(hlt:∀ x∈s.data.toList,x=98∨x=66):
 Calls Tryz.prog 58 #[.pointer (some ⟨c,0,none⟩),.agg #[.string s,gv]] W fun e W'=>∃ r:Int,e=.returned (.int .i64 r)∧Hid (FirstOK s.data.toList G r)∧Hid (Below W.heap.size W W'):=by
 have hsz:s.data.toList.length=s.size:=by simp
 have HB1:Hid (Below W.heap.size W (W.alloc (.cells #[.string s,gv] 78))):=(Below.refl _ W).alloc (jR _) _
 have HX1:Hid ((W.alloc (.cells #[.string s,gv] 78)).heap[W.heap.size]? = some (.cells #[.string s,gv] 78 (0,0))):=jD W _
 have hP:∀ w,Hid (Below W.heap.size W w)→∀ i:Int,Calls Tryz.prog 35 #[.pointer (some ⟨c,0,none⟩),.agg #[.string s,gv],.int .i64 i] w fun e W'=>e=.returned (.bool (pinR s.data.toList G i))∧Hid (Below w.heap.size w W'):=fun w hb i=>rpin_calls (H.below hb.out) (HP.below hb.out) hlen hs hlt i
 have HSz:=jH hsz
 clear H HP hlen hlt hsz
 go_enter Tryz.func58,Tryz.ntmps58
 go_wp2_with fail
 go_loopg [5] s.size (fun g1 kv wr=>∃ k:Nat,kv=.int .i64 k∧k≤s.size∧s.size - k≤g1∧Hid (∀ j<k,pinR s.data.toList G (j:Nat)=false)∧Hid (Below W.heap.size W wr)∧Hid (wr.heap[W.heap.size]? = some (.cells #[.string s,gv] 78 (0,0))))
 case atStart=>exact⟨0,rfl,by omega,by omega,fun j h=>by omega,HB1,HX1⟩
 case round =>
  obtain⟨k,rfl,hk,hg1,HT,HB,HX⟩:=hrel
  have x0:wr.cell? ⟨W.heap.size,0,none⟩=some (.string s):=by rw[jB HX.out];rfl
  have x1:wr.cell? ⟨W.heap.size,1,none⟩=some gv:=by rw[jB HX.out];rfl
  by_cases hlt:k<s.size
  ·have hkz:(k:Int)<(s.size:Int):=by omega
   have hk0:(0:Int)≤(k:Int):=Int.natCast_nonneg k
   have hkw:IntKind.i64.wrap ((k:Int)+1)=(k:Int)+1:=IntWalk.i64_in _ (by omega)
   have hC:=hP wr HB k
   go_wp2_with fail
   refine hC.mono ?_
   rintro e w2 ⟨rfl,hb2⟩
   have HB2:=jH (Below.trans' HB.out hb2.out)
   have HX2:=jH (Below.here hb2.out HX.out)
   clear hC hb2 x0 x1
   have x0:w2.cell? ⟨W.heap.size,0,none⟩=some (.string s):=by rw[jB HX2.out];rfl
   have x1:w2.cell? ⟨W.heap.size,1,none⟩=some gv:=by rw[jB HX2.out];rfl
   obtain⟨pb,hpb⟩:∃ pb,pinR s.data.toList G k=pb:=⟨_,rfl⟩
   have Hpb:=jH hpb
   rw[hpb]
   clear hpb
   cases pb with
   | true =>
     go_wp2_with fail
     go_ret
     exact⟨k,rfl,.inr ⟨k,rfl,Hpb.out,HT.out⟩,HB2⟩
   | false =>
     go_wp2_with fail
     go_roundg (s.size - (k+1))
     case measure=>omega
     case rel=>exact⟨k+1,by go_num,by omega,by omega,fun j hj=>by
      rcases Nat.lt_or_ge j k with h | h
      ·exact HT.out j h
      ·rw[show j=k by omega];exact Hpb.out,HB2,HX2⟩
  ·have hkz:¬ ((k:Int)<(s.size:Int)):=by omega
   have hkz2:decide ((k:Int)<(s.size:Int))=false:=by simpa using hlt
   go_wp2_with fail
   go_ret
   exact⟨-1,rfl,.inl ⟨rfl,fun j=>by
    rcases Nat.lt_or_ge j k with h | h
    ·exact HT.out j h
    ·exact pinR_end (by rw[HSz.out];omega)⟩,HB⟩
theorem rend_calls {lo:Nat}{W:World}{vs:List Int}(hwv:WV vs){gv:Value}{l:List N3}(HP:PR lo W vs gv l G){s:ByteArray}(hlen:G.length=s.size+1)(hs:s.size≤1000000):
 Calls Tryz.prog 59 #[.agg #[.string s,gv]] W fun e W'=>∃ iu iv im:Nat,e=.returned (.tuple #[.int .i64 (s.size:Nat),.agg #[.int .i64 (iu:Nat),.int .i64 (iv:Nat),.int .i64 (im:Nat)]])∧Hid (AtE vs (endE s.data.toList G) iu iv im)∧Hid (Below W.heap.size W W'):=by
 obtain⟨g,hg⟩:∃ g,G[0]? = some g:=⟨_,jG (by omega)⟩
 obtain⟨gb,gc,iu,iv,im,rfl,-,hat,g0,g1,g2⟩:=HP.el hg
 have lg:=jg g0
 have ng:gb≠W.heap.size:=Nat.ne_of_lt lg
 rw[Nat.zero_mul] at g0 g1 g2
 have hGl:0<G.length:=by omega
 have hGl2:(0:Int)<(G.length:Int):=by omega
 have HB2:Hid (Below W.heap.size W ((W.alloc (.cells #[.string s,.slice (some ⟨gb,0,none⟩) G.length gc] 78)).alloc (.cells #[.int .i64 0,.int .i64 0,.int .i64 0] 35))):=((Below.refl _ W).alloc (jR _) _).alloc (by simp) _
 by_cases h0:s.size=0
 ·have hn:¬ ((0:Int)<(s.size:Int)):=by omega
  have hn2:decide ((0:Int)<(s.size:Int))=false:=by simpa using h0
  have HE:Hid (AtE vs (endE s.data.toList G) iu iv im):=by
   show AtE _ _ _ _ _
   unfold endE
   rw[if_pos (List.length_eq_zero_iff.1 (by simpa using h0)),List.getD_eq_getElem?_getD,hg];exact hat
  clear HP hg hat hwv hlen
  go_enter Tryz.func59,Tryz.ntmps59
  go_wp2_with fail
  have HB3:Hid (Below W.heap.size W (((W.alloc (.cells #[.string s,.slice (some ⟨gb,0,none⟩) G.length gc] 78)).alloc (.cells #[.int .i64 (iu:Nat),.int .i64 (iv:Nat),.int .i64 (im:Nat)] 35)).drew)):=Below.drew (((Below.refl _ W).alloc (jR _) _).alloc (by simp) _)
  have Hz:=jH h0
  go_region
  go_wp2_with fail
  refine bodyPost_ret (v:=.tuple #[.int .i64 0,.agg #[.int .i64 (iu:Nat),.int .i64 (iv:Nat),.int .i64 (im:Nat)]]) (by simp[results,Tryz.results59,go_sem]) rfl ?_
  exact⟨iu,iv,im,by rw[Hz.out];rfl,HE,HB3⟩
 ·have hn:(0:Int)<(s.size:Int):=by omega
  have HE:Hid (AtE vs (endE s.data.toList G) 0 0 0):=by
   show AtE _ _ _ _ _
   unfold endE
   rw[if_neg (fun h=>h0 (by have:=congrArg List.length h; simpa using this))]
   exact⟨hwv.zero,hwv.zero,hwv.zero⟩
  clear HP hg hat hwv hlen
  go_enter Tryz.func59,Tryz.ntmps59
  go_wp2_with fail
  refine bodyPost_ret (v:=.tuple #[.int .i64 (s.size:Nat),.agg #[.int .i64 0,.int .i64 0,.int .i64 0]]) (by simp[results,Tryz.results59,go_sem]) rfl ?_
  exact⟨0,0,0,rfl,HE,HB2⟩
end
end Sr
namespace Sr
theorem zg {o:List UInt8}{G:List E3}{i:Nat}(h:pinR o G (i:Nat)=true): i+1<o.length∧pinAt o G i=true:=by
 unfold pinR at h
 rw[Bool.and_eq_true,decide_eq_true_eq,Int.toNat_natCast] at h
 exact⟨by omega,h.2⟩
end Sr
namespace Sr
open Go Go.Proofs Go.RowKit Go.Maps Go.WideMaps
section
section
variable {ops:Array Oper} {o:Oper} {a:Act} {K:Act→World→Prop} {Q:Exit→Act→World→Prop} {E:Prop} {W:World}
theorem step_S1 (hgd:o.guard=none)(s x:Operand)(ho:o.op=.call { callee:=.builtin .append,args:=#[s,x],argTypes:=#[23,23] }) 
 (v:Value) (n:Nat) (l:List Value) (hs:a.eval s=v) (hown:W.ownsRow 0 42 2 v n l) (B:Nat) (i:Int) (t:Value) (h1:t.oneCell'=true) (hx:a.eval x=.slice (some ⟨B,0,none⟩) 1 1)
 (hB:W.heap[B]? = some (.cells #[.int .i64 i,t] 42 (0,0))) (hb:n+1≤1099511627776) (H:Nat) (hH:W.heap.size=H)
 (h:∀ g cap w',w'.ownsRow 0 42 2 (.slice (some ⟨g,0,none⟩) (n+1) cap) (n+1) (l++[.int .i64 i,t])→W.grownBy w' v.ownBlock→(v.ownBlock=some g∨g=H)→g<w'.heap.size→K (a.put o.dst (.slice (some ⟨g,0,none⟩) (n+1) cap)) w') :
 if Region.wanted o (yielded ops a.tmps)=true then Oper.wp Tryz.prog o a W K Q else E:=by
 obtain⟨ii,hi,hz0,hz1,hz2⟩:=info_parts info42
 exact step_append_lies W hgd s x 23 ho 0 42 ii _ 2 32 un23 hi hz0 hz1 hz2 rfl (by decide) v n _ hs hown ⟨B,0,none⟩ 1 1 [.int .i64 i,t] hx rfl (fun j u hu=>World.news_of_block hB j u hu) (by simp[h1];rfl) (by omega) (by simp only[maxLen];omega) (by omega) (Nat.zero_le _) H hH h
end
variable {W':World} {i:Nat}
theorem RK.kept2 {b:Nat}{W W2:World}{c p:Nat}{fv fv':Value}{fl fl':List Value}{vs vs':List Int}{full':Bool}(T0:TypeId)(hn:T0≠75∧T0≠105∧T0≠137∧T0≠139)(h:RK b W W' c p fv fv' fl fl' vs vs' full')(hb:Below W.heap.size W' W2)(hT:∀ (q:Nat) (cs:Array Value) (T:TypeId),W'.heap[q]? = some (.cells cs T (0,0))→T≠T0→W2.heap[q]? = W'.heap[q]?): RK b W W2 c p fv fv' fl fl' vs vs' full':=by
 refine⟨⟨?_,(hT _ _ _ h.rc.obj (Ne.symm hn.1)).trans h.rc.obj⟩,h.ext,⟨hb.os.trans h.fr.os,hb.tape.trans h.fr.tape,hb.output.trans h.fr.output,Nat.le_trans h.fr.size hb.size,fun q hq hn=>(hb.block q hq).trans (h.fr.block q hq hn)⟩,h.fvb⟩
 obtain⟨C,h1,h2⟩:=h.rc.rw
 refine⟨C,h1,h2.kept fun q hq=>?_⟩
 obtain⟨cs,T,hc,ht⟩:=h2.btype hq
 exact hT q cs T hc (by rcases ht with rfl | rfl | rfl; exact Ne.symm hn.2.1; exact Ne.symm hn.2.2.1; exact Ne.symm hn.2.2.2)
structure RrS (W w:World)(B c D6 D7 b p:Nat)(fv0 fv:Value)(fl0 fl:List Value)(vs0 vs:List Int)(full:Bool)(s:ByteArray)(gv:Value)(l:List N3)(G:List E3)(stv:Value)(acc:List (Nat×Int)): Prop where
 rk:RK b W w c p fv0 fv fl0 fl vs0 vs full
 b0:w.heap[B]? = some (.cells #[.slice none 0 0,.int .i64 0,.int .i64 0,.int .i64 0,.int .i64 0,.int .i64 0] 37 (0,0))
 b6:w.heap[D6]? = some (.cells #[.string s,gv] 78 (0,0))
 b7:w.heap[D7]? = some (.cells #[stv,.int .i64 0,.int .i64 0,.int .i64 0,.int .i64 0,.int .i64 0] 37 (0,0))
 pr:PR 0 w vs gv l G
 st:StRow W.heap.size w stv acc
 hB:W.heap.size≤B
 h6:W.heap.size≤D6
 h7:W.heap.size≤D7
 hB7:B≠D7
section
variable {W w w':World} {B c D6 D7 b b' p:Nat} {fv0 fv fv':Value} {fl0 fl fl':List Value} {vs0 vs vs':List Int} {full full':Bool} {s:ByteArray} {gv:Value} {l:List N3} {G:List E3} {stv:Value} {acc:List (Nat×Int)}
theorem RrS.call (h:RrS W w B c D6 D7 b p fv0 fv fl0 fl vs0 vs full s gv l G stv acc)(k:RK b' w w' c p fv fv' fl fl' vs vs' full'): RrS W w' B c D6 D7 b' p fv0 fv' fl0 fl' vs0 vs' full' s gv l G stv acc:={
 rk:=h.rk.trans k
 b0:=jd h.rk.rc k h.b0 (by decide) (by decide) (by decide)
 b6:=jd h.rk.rc k h.b6 (by decide) (by decide) (by decide)
 b7:=jd h.rk.rc k h.b7 (by decide) (by decide) (by decide)
 pr:=h.pr.rk h.rk.rc k
 st:=h.st.kept fun q cs T hq _ ht=>by
  rw[hq];exact jd h.rk.rc k hq (by rcases ht with rfl | rfl <;>decide) (by rcases ht with rfl | rfl <;>decide) (by rcases ht with rfl | rfl <;>decide)
 hB:=h.hB,h6:=h.h6,h7:=h.h7,hB7:=h.hB7 }
theorem RrS.below (h:RrS W w B c D6 D7 b p fv0 fv fl0 fl vs0 vs full s gv l G stv acc)(k:Below w.heap.size w w'): RrS W w' B c D6 D7 b p fv0 fv fl0 fl vs0 vs full s gv l G stv acc:={
 rk:=h.rk.post k,b0:=Below.here k h.b0,b6:=Below.here k h.b6,b7:=Below.here k h.b7,pr:=h.pr.below k,st:=h.st.below k,hB:=h.hB,h6:=h.h6,h7:=h.h7,hB7:=h.hB7 }
theorem RrS.mono (h:RrS W w B c D6 D7 b p fv0 fv fl0 fl vs0 vs full s gv l G stv acc)(hb:b≤b'): RrS W w B c D6 D7 b' p fv0 fv fl0 fl vs0 vs full s gv l G stv acc:={
 rk:=h.rk.mono hb,b0:=h.b0,b6:=h.b6,b7:=h.b7,pr:=h.pr,st:=h.st,hB:=h.hB,h6:=h.h6,h7:=h.h7,hB7:=h.hB7 }
theorem RrS.set6 (h:RrS W w B c D6 D7 b p fv0 fv fl0 fl vs0 vs full s gv l G stv acc){s':ByteArray}{gv':Value}{l':List N3}{G':List E3}(hp:PR 0 w vs gv' l' G'):
 RrS W ((w.setCell ⟨D6,0,none⟩ (.string s')).setCell ⟨D6,1,none⟩ gv') B c D6 D7 b p fv0 fv fl0 fl vs0 vs full s' gv' l' G' stv acc:=by
 obtain⟨f1,e1⟩:=h.rk.setT h.b6 (by decide) h.h6 0 (.string s')
 obtain⟨f2,e2⟩:=f1.setT e1 (by decide) h.h6 1 gv'
 have ke:∀ q:Nat,q≠D6→((w.setCell ⟨D6,0,none⟩ (.string s')).setCell ⟨D6,1,none⟩ gv').heap[q]? = w.heap[q]?:=fun q hq=>(jS _ _ _ _ hq).trans (jS _ _ _ _ hq)
 exact {
  rk:=f2
  b0:=(ke B (jI h.b0 h.b6 (by decide))).trans h.b0
  b6:=e2
  b7:=(ke D7 (jI h.b7 h.b6 (by decide))).trans h.b7
  pr:=⟨qP hp.row fun q hq=>by
   obtain⟨cs,hc⟩:=jl hp.row hq
   exact ke q (jI hc h.b6 (by decide)),hp.at_,hp.hg⟩
  st:=h.st.kept fun q cs T hq _ ht=>ke q (jI hq h.b6 (by rcases ht with rfl | rfl <;>decide))
  hB:=h.hB,h6:=h.h6,h7:=h.h7,hB7:=h.hB7 }
theorem RrS.mid (h:RrS W w B c D6 D7 b p fv0 fv fl0 fl vs0 vs full s gv l G stv acc)(Gr:w.grownBy w' stv.ownBlock): w'.heap[D7]? = some (.cells #[stv,.int .i64 0,.int .i64 0,.int .i64 0,.int .i64 0,.int .i64 0] 37 (0,0)):=by
 obtain⟨us,h1,h2,h3⟩:=h.st.row
 refine (Gr.block D7 (jA h.b7).1 fun e=>?_).trans h.b7
 obtain⟨cs,hc⟩:=jl h2 e.symm
 exact jI h.b7 hc (by decide) rfl
theorem RrS.app (h:RrS W w B c D6 D7 b p fv0 fv fl0 fl vs0 vs full s gv l G stv acc){stv':Value}{acc':List (Nat×Int)}(Gr:w.grownBy w' stv.ownBlock)(hs:StRow W.heap.size w' stv' acc'):
 RrS W (w'.setCell ⟨D7,0,none⟩ stv') B c D6 D7 b p fv0 fv fl0 fl vs0 vs full s gv l G stv' acc':=by
 have hm:=h.mid Gr
 have hbl:Below W.heap.size w w':=j9 Gr (fun q hq=>h.st.own q hq) h.rk.fr.size
 have hT:∀ (q:Nat) (cs:Array Value) (T:TypeId),w.heap[q]? = some (.cells cs T (0,0))→T≠42→w'.heap[q]? = w.heap[q]?:=fun q cs T hq ht=>Gr.block q (jA hq).1 fun e=>by
  obtain⟨us,h1,h2,h3⟩:=h.st.row
  obtain⟨cs',hc⟩:=jl h2 e.symm
  exact jI hq hc ht rfl
 have hrk:=h.rk.kept2 42 (by decide) hbl hT
 have ke:∀ q:Nat,q≠D7→(w'.setCell ⟨D7,0,none⟩ stv').heap[q]? = w'.heap[q]?:=fun q hq=>jS _ _ _ _ hq
 exact {
  rk:=(hrk.setT hm (by decide) h.h7 0 _).1
  b0:=(ke B h.hB7).trans ((hT _ _ _ h.b0 (by decide)).trans h.b0)
  b6:=(ke D6 (jI h.b6 h.b7 (by decide))).trans ((hT _ _ _ h.b6 (by decide)).trans h.b6)
  b7:=heap_setCell_same w' D7 0 _ 37 stv' hm
  pr:=⟨qP h.pr.row fun q hq=>by
   obtain⟨cs,hc⟩:=jl h.pr.row hq
   exact (ke q (jI hc h.b7 (by decide))).trans (hT _ _ _ hc (by decide)),h.pr.at_,h.pr.hg⟩
  st:=hs.kept fun q cs T hq _ ht=>ke q (jI hq hm (by rcases ht with rfl | rfl <;>decide))
  hB:=h.hB,h6:=h.h6,h7:=h.h7,hB7:=h.hB7 }
theorem RrS.first (h:RrS W w B c D6 D7 b p fv0 fv fl0 fl vs0 vs full s gv l G stv acc)(h1:G.length=s.size+1)(h2:s.size≤130)(h3:∀ x∈s.data.toList,x=98∨x=66):
 Calls Tryz.prog 58 #[.pointer (some ⟨c,0,none⟩),.agg #[.string s,gv]] w fun e W'=>∃ r:Int,e=.returned (.int .i64 r)∧Hid (FirstOK s.data.toList G r)∧Hid (Below w.heap.size w W'):=rfst_calls h.rk.rc h.pr h1 (by omega) h3
end
theorem Fr.drop_new {c:Nat}{F:List Nat}{W:World}(h:Fr (c::F) W W')(hc:W.heap.size≤c): Fr F W W' :=
 ⟨h.os,h.tape,h.output,h.size,fun q hq hn=>h.block q hq fun hm=>by
  rcases List.mem_cons.1 hm with rfl | hm
  ·omega
  ·exact hn hm⟩
theorem RK.end6 {b:Nat}{W:World}{c p:Nat}{fv fv':Value}{fl fl':List Value}{vs vs':List Int}{full':Bool}(h:RK b W W' c p fv fv' fl fl' vs vs' full'){q:Nat}{cs:Array Value}(hq:W'.heap[q]? = some (.cells cs 37 (0,0)))(hl:W.heap.size≤q)(v0 v1 v2 v3 v4 v5:Value):
 RK b W ((((((W'.setCell ⟨q,0,none⟩ v0).setCell ⟨q,1,none⟩ v1).setCell ⟨q,2,none⟩ v2).setCell ⟨q,3,none⟩ v3).setCell ⟨q,4,none⟩ v4).setCell ⟨q,5,none⟩ v5) c p fv fv' fl fl' vs vs' full':=by
 obtain⟨f0,e0⟩:=h.setT hq (by decide) hl 0 v0
 obtain⟨f1,e1⟩:=f0.setT e0 (by decide) hl 1 v1
 obtain⟨f2,e2⟩:=f1.setT e1 (by decide) hl 2 v2
 obtain⟨f3,e3⟩:=f2.setT e2 (by decide) hl 3 v3
 obtain⟨f4,e4⟩:=f3.setT e3 (by decide) hl 4 v4
 exact (f4.setT e4 (by decide) hl 5 v5).1
theorem heap_end6 (W':World){q g:Nat}(hg:g≠q)(v0 v1 v2 v3 v4 v5:Value): ((((((W'.setCell ⟨q,0,none⟩ v0).setCell ⟨q,1,none⟩ v1).setCell ⟨q,2,none⟩ v2).setCell ⟨q,3,none⟩ v3).setCell ⟨q,4,none⟩ v4).setCell ⟨q,5,none⟩ v5).heap[g]? = W'.heap[g]? :=
 (jS _ _ _ _ hg).trans ((jS _ _ _ _ hg).trans ((jS _ _ _ _ hg).trans ((jS _ _ _ _ hg).trans ((jS _ _ _ _ hg).trans (jS _ _ _ _ hg)))))
theorem foldl_letters:∀ (l:List UInt8) (st:List UInt8×List E3),(∀ x∈l,x=97∨x=65∨x=98∨x=66)→(∀ x∈st.1,x=98∨x=66)→∀ x∈(l.foldl rdStep st).1,x=98∨x=66
 | [],st,_,h=>h
 | c::l,st,hl,h=>by
   refine foldl_letters l (rdStep st c) (fun x hx=>hl x (by simp[hx])) fun x hx=>?_
   unfold rdStep at hx
   split at hx
   ·exact h x hx
   ·split at hx
    ·exact h x hx
    ·rcases List.mem_append.1 hx with hx | hx
     ·exact h x hx
     ·rcases hl c (by simp) with e | e | e | e
      ·exact absurd e (by assumption)
      ·exact absurd e (by assumption)
      ·simp at hx; subst hx; exact .inl e
      ·simp at hx; subst hx; exact .inr e
theorem xO {l:List UInt8}(h:∀ x∈l,x=97∨x=65∨x=98∨x=66): ∀ x∈(readE l).1,x=98∨x=66:=foldl_letters l _ h (by simp)
theorem xP {o:List UInt8}(h:∀ x∈o,x=98∨x=66): ∀ x∈pinO o i,x=98∨x=66:=fun x hx=>by
 unfold pinO at hx
 rcases List.mem_append.1 hx with hx | hx
 ·exact h x (List.mem_of_mem_take hx)
 ·exact h x (List.mem_of_mem_drop hx)
theorem makeG_len {o:List UInt8}{G:List E3}{K:Int}(h:i+1<o.length)(hg:G.length=o.length+1): (makeG o G i K).length=(pinO o i).length+1:=by
 unfold pinO makeG makeGo; simp; omega
theorem makeG_eok {o:List UInt8}{G:List E3}(hK:allowed (pinK o G i))(h:makeF o G i (pinK o G i)=false)(hG:∀ x∈G,EOK x): ∀ x∈makeG o G i (pinK o G i),EOK x:=fun x hx=>by
 rw[makeG_ok hK h] at hx
 have hA:=((makeF_iff hK).1 h).2
 unfold pinG at hx
 rcases List.mem_append.1 hx with hx | hx
 ·rcases List.mem_append.1 hx with hx | hx
  ·exact hG x (List.mem_of_mem_take hx)
  ·simp at hx; subst hx
   exact hA.2.2.eok
 ·exact hG x (List.mem_of_mem_drop hx)
theorem endE_eok {o:List UInt8}{G:List E3}(h:∀ x∈G,EOK x): EOK (endE o G):=by
 unfold endE
 split
 ·cases G with
  | nil=>exact EOK.zero
  | cons g G=>exact h g (by simp)
 ·exact EOK.zero
abbrev z37:Array Value:=#[.slice none 0 0,.int .i64 0,.int .i64 0,.int .i64 0,.int .i64 0,.int .i64 0]
end
end Sr
