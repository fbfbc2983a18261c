/- Texts of this claim, joined: App, Push, Id, Clone, Rev, NumD, Take. -/
import Derived.Test.YtabafgphmbdpgaaGreatDoorTe1
import Derived.Test.YtabafgphmbdpgaaGreatDoorTe2
import Derived.OwnWalk
import Derived.Maps.AppendAt
import Derived.Deep.AppendLies
import Derived.Laws.IdiomStrings
import Derived.Lib.BufferMore
set_option maxHeartbeats 8000000
set_option maxRecDepth 100000
namespace Sr
open Go Go.Proofs Go.RowKit Go.Maps Go.WideMaps
theorem info154:(Tryz.prog.info? 154).map (fun i=>(i.zero,i.size,i.bytes))=some (some (.agg #[.bool false,.int .i64 0]),2,16):=by kernel_rfl
theorem info3:(Tryz.prog.info? 3).map (fun i=>(i.zero,i.size,i.bytes))=some (some (.int .i64 0),1,8):=by kernel_rfl
theorem info5:(Tryz.prog.info? 5).map (fun i=>(i.zero,i.size,i.bytes))=some (some (.int .u8 0),1,1):=by kernel_rfl
theorem info111:(Tryz.prog.info? 111).map (fun i=>(i.zero,i.size,i.bytes))=some (some (.slice none 0 0),1,24):=by kernel_rfl
theorem un111:Tryz.prog.underlying 111=some (.slice 154):=by kernel_rfl
theorem un80:Tryz.prog.underlying 80=some (.slice 3):=by kernel_rfl
theorem un40:Tryz.prog.underlying 40=some (.slice 5):=by kernel_rfl
theorem un120:Tryz.prog.underlying 120=some (.slice 111):=by kernel_rfl
def IRow (W:World)(v:Value)(l:List Nat): Prop:=W.ownsRow 0 3 1 v l.length (l.map fun (i:Nat)=>.int .i64 (i:Nat))
def BRow (W:World)(v:Value)(l:List UInt8): Prop:=W.ownsRow 0 5 1 v l.length (l.map fun b=>.int .u8 (b.toNat:Nat))
section
variable {ops:Array Oper} {rest:List Oper} {o:Oper} {a:Act} {Q:Exit→Act→World→Prop} {W:World}
theorem oneT (l:List PT): ∀ u∈tcells l,u.oneCell'=true:=by
 intro u hu
 obtain⟨t,_,hu⟩:=List.mem_flatMap.1 hu
 simp at hu
 rcases hu with rfl | rfl <;>rfl
theorem app_T (hgd:o.guard=none)(s x:Operand)(ho:o.op=.call { callee:=.builtin .append,args:=#[s,x],argTypes:=#[111,111] }) 
 (v:Value) (l:List PT) (hs:a.eval s=v) (hown:TRow W v l) (ad:Addr) (c m:Nat) (l2:List PT) (hx:a.eval x=.slice (some ad) m c) (hm:l2.length=m)
 (hnews:∀ j u,(tcells l2)[j]? = some u→W.cell? (ad.add j)=some u) (hb:l.length+m≤1099511627776)
 (h:∀ v' w',TRow w' v' (l++l2)→W.grownBy w' v.ownBlock→(v'=.slice none 0 0↔v=.slice none 0 0∧m=0)→(v'.ownBlock=v.ownBlock∨v'.ownBlock=some W.heap.size)→wpList Tryz.prog ops Q rest (a.put o.dst v') w') :
 wpList Tryz.prog ops Q (o::rest) a W:=by
 obtain⟨i,hi,hz0,hz1,hz2⟩:=info_parts info154
 subst hm
 refine wpList_append_own_at _ hgd s x 111 ho 0 154 i _ 2 16 un111 hi hz0 hz1 hz2 rfl (by decide) v l.length (tcells l) hs hown ad l2.length c (tcells l2) hx (tcells_len _) hnews (oneT _) (by simp only[maxLen];omega) (by omega) (Nat.zero_le _) ?_
 intro v' w' k1 k2 k3 k4
 refine h v' w' ?_ k2 k3 k4
 unfold TRow
 rw[List.length_append,tcells_append];exact k1
theorem app_T1 (hgd:o.guard=none)(s x:Operand)(ho:o.op=.call { callee:=.builtin .append,args:=#[s,x],argTypes:=#[111,111] }) 
 (v:Value) (l:List PT) (hs:a.eval s=v) (hown:TRow W v l) (B:Nat) (t:PT) (hx:a.eval x=.slice (some ⟨B,0,none⟩) 1 1)
 (hB:W.heap[B]? = some (.cells #[.bool t.1,.int .i64 (t.2:Nat)] 154 (0,0))) (hb:l.length+1≤1099511627776)
 (h:∀ v' w',TRow w' v' (l++[t])→W.grownBy w' v.ownBlock→v'≠.slice none 0 0→(v'.ownBlock=v.ownBlock∨v'.ownBlock=some W.heap.size)→wpList Tryz.prog ops Q rest (a.put o.dst v') w') :
 wpList Tryz.prog ops Q (o::rest) a W :=
 app_T hgd s x ho v l hs hown ⟨B,0,none⟩ 1 1 [t] hx rfl (fun j u hu=>World.news_of_block hB j u hu) hb fun v' w' k1 k2 k3 k4=>h v' w' k1 k2 (fun e=>by have:=(k3.1 e).2; omega) k4
theorem app_I1 (hgd:o.guard=none)(s x:Operand)(ho:o.op=.call { callee:=.builtin .append,args:=#[s,x],argTypes:=#[80,80] }) 
 (v:Value) (l:List Nat) (hs:a.eval s=v) (hown:IRow W v l) (B:Nat) (t:Nat) (hx:a.eval x=.slice (some ⟨B,0,none⟩) 1 1)
 (hB:W.heap[B]? = some (.cells #[.int .i64 (t:Nat)] 3 (0,0))) (hb:l.length+1≤1099511627776)
 (h:∀ v' w',IRow w' v' (l++[t])→W.grownBy w' v.ownBlock→v'≠.slice none 0 0→(v'.ownBlock=v.ownBlock∨v'.ownBlock=some W.heap.size)→wpList Tryz.prog ops Q rest (a.put o.dst v') w') :
 wpList Tryz.prog ops Q (o::rest) a W:=by
 obtain⟨i,hi,hz0,hz1,hz2⟩:=info_parts info3
 refine wpList_append_own_at _ hgd s x 80 ho 0 3 i _ 1 8 un80 hi hz0 hz1 hz2 rfl (by decide) v l.length _ hs hown ⟨B,0,none⟩ 1 1 [.int .i64 (t:Nat)] hx rfl (fun j u hu=>World.news_of_block hB j u hu) (by simp; rfl) (by simp only[maxLen];omega) (by omega) (Nat.zero_le _) ?_
 intro v' w' k1 k2 k3 k4
 refine h v' w' ?_ k2 (fun e=>by have:=(k3.1 e).2; omega) k4
 unfold IRow
 rw[List.length_append,List.map_append];exact k1
theorem app_B (hgd:o.guard=none)(s x:Operand)(ho:o.op=.call { callee:=.builtin .append,args:=#[s,x],argTypes:=#[40,40] }) 
 (v:Value) (l:List UInt8) (hs:a.eval s=v) (hown:BRow W v l) (B m:Nat) (l2:List UInt8) (hx:a.eval x=.slice (some ⟨B,0,none⟩) m m) (hm:l2.length=m) (cs:Array Value) (hcs:cs.toList=l2.map fun b=>.int .u8 (b.toNat:Nat))
 (hB:W.heap[B]? = some (.cells cs 5 (0,0))) (hb:l.length+m≤1099511627776)
 (h:∀ v' w',BRow w' v' (l++l2)→W.grownBy w' v.ownBlock→(v'.ownBlock=v.ownBlock∨v'.ownBlock=some W.heap.size)→wpList Tryz.prog ops Q rest (a.put o.dst v') w') :
 wpList Tryz.prog ops Q (o::rest) a W:=by
 obtain⟨i,hi,hz0,hz1,hz2⟩:=info_parts info5
 subst hm
 refine wpList_append_own_at _ hgd s x 40 ho 0 5 i _ 1 1 un40 hi hz0 hz1 hz2 rfl (by decide) v l.length _ hs hown ⟨B,0,none⟩ l2.length l2.length (l2.map fun b=>.int .u8 (b.toNat:Nat)) hx (by simp) (fun j u hu=>World.news_of_block hB j u (by rw[hcs];exact hu)) (by intro u hu; obtain⟨b,_,rfl⟩:=List.mem_map.1 hu; rfl) (by simp only[maxLen];omega) (by omega) (Nat.zero_le _) ?_
 intro v' w' k1 k2 k3 k4
 refine h v' w' ?_ k2 k4
 unfold BRow
 rw[List.length_append,List.map_append];exact k1
theorem make_B (hgd:o.guard=none)(l c:Operand)(hop:o.op=Op.makeSlice 40 l c)(n:Nat)(hl:a.eval l=.int .i64 0)(C:Int)(hc:a.eval c=.int .i64 C)(hC:C=(n:Int))(hn:n≤1099511627776) 
 (h:∀ w',BRow w' (.slice (some ⟨W.heap.size,0,none⟩) 0 n) []→W.grownBy w' none→wpList Tryz.prog ops Q rest (a.put o.dst (.slice (some ⟨W.heap.size,0,none⟩) 0 n)) w') :
 wpList Tryz.prog ops Q (o::rest) a W:=by
 obtain⟨i,hi,hz0,hz1,hz2⟩:=info_parts info5
 exact wpList_make_own W hgd l c 40 hop 0 5 i _ 1 un40 hi hz0 hz1 .i64 .i64 C n hl hc hC (by rw[hz2];omega) (by simp only[maxLen];omega) (Nat.zero_le _) h
theorem app_F1 (hgd:o.guard=none)(s x:Operand)(ho:o.op=.call { callee:=.builtin .append,args:=#[s,x],argTypes:=#[120,120] }) 
 (v:Value) (n:Nat) (l:List Value) (hs:a.eval s=v) (hown:W.ownsRow 0 111 1 v n l) (B:Nat) (t:Value) (h1:t.oneCell'=true) (hx:a.eval x=.slice (some ⟨B,0,none⟩) 1 1)
 (hB:W.heap[B]? = some (.cells #[t] 111 (0,0))) (hb:n+1≤1099511627776)
 (h:∀ v' w',w'.ownsRow 0 111 1 v' (n+1) (l++[t])→W.grownBy w' v.ownBlock→v'≠.slice none 0 0→(v'.ownBlock=v.ownBlock∨v'.ownBlock=some W.heap.size)→wpList Tryz.prog ops Q rest (a.put o.dst v') w') :
 wpList Tryz.prog ops Q (o::rest) a W:=by
 obtain⟨i,hi,hz0,hz1,hz2⟩:=info_parts info111
 refine wpList_append_own_at _ hgd s x 120 ho 0 111 i _ 1 24 un120 hi hz0 hz1 hz2 rfl (by decide) v n _ hs hown ⟨B,0,none⟩ 1 1 [t] hx rfl (fun j u hu=>World.news_of_block hB j u hu) (by simpa using h1) (by simp only[maxLen];omega) (by omega) (Nat.zero_le _) ?_
 intro v' w' k1 k2 k3 k4
 exact h v' w' k1 k2 (fun e=>by have:=(k3.1 e).2; omega) k4
end
section
variable {v:Value}
section
variable {C:List Nat} {W W':World} {p:Nat} {F:List Nat} {D:WD} {vs:List Int} {gk:List Nat} {m:Nat}
theorem pf_places (hv:vs.length≤2147483648){x:Int}(hx:∀ e∈exps x,(e:Int)∈vs): ∀ t∈pf vs x,t.2<4294967296:=by
 intro t ht
 obtain⟨u,hu,rfl⟩:=List.mem_map.1 ht
 have:=zR (hx _ (Sr.mem_exps hu))
 show vs.idxOf _<_
 omega
theorem pf_len (hv:vs.length≤2147483648){x:Int}(hx:∀ e∈exps x,(e:Int)∈vs): (pf vs x).length≤2147483648:=by
 have h1:(pf vs x).length=(exps x).length:=by simp[pf,exps]
 rw[h1]
 have:=jT (exps x) (vs.map Int.toNat) (exps_nodup x) (fun e he=>List.mem_map.2 ⟨(e:Int),hx e he,by simp⟩)
 rw[List.length_map] at this
 omega
theorem WO.lookPlc (h:WO C W p F D vs gk m){x:Int}(hx:∀ e∈exps x,(e:Int)∈vs):
 (x∉vs∧∀ W',W'.heap[D.mp]? = W.heap[D.mp]?→(Instr.lookup 121 (.map (some D.mp)) (.string ⟨(kb (pf vs x)).toArray⟩) true).run Tryz.prog W'=.ok (.tuple #[.int .i64 0,.bool false]) W') ∨
 (x∈vs∧∀ W',W'.heap[D.mp]? = W.heap[D.mp]?→(Instr.lookup 121 (.map (some D.mp)) (.string ⟨(kb (pf vs x)).toArray⟩) true).run Tryz.prog W'=.ok (.tuple #[.int .i64 (vs.idxOf x:Nat),.bool true]) W'):=by
 have hv:=h.vlen
 have hl:keyOf Tryz.prog 9 (.string ⟨(kb (pf vs x)).toArray⟩)=some (.string (kb (pf vs x))):=keyStr (by
  have:=pf_len hv hx
  show (kb (pf vs x)).toArray.size≤maxLen
  rw[List.size_toArray,kb_len];simp only[maxLen];omega)
 obtain⟨f,h1,h2⟩:=h.plc
 by_cases hm:x∈vs
 ·right
  refine⟨hm,fun W' hW=>?_⟩
  have hf:f (.string ⟨(kb (pf vs x)).toArray⟩)=some (.int .i64 (vs.idxOf x:Nat)):=(h2 _ _).2 ⟨_,x,jU hm,rfl,rfl⟩
  have:=(h1.kept hW).look true law9 Tryz.underlying121 (zero3 W') hl
  simpa [hf] using this
 ·left
  refine⟨hm,fun W' hW=>?_⟩
  have hf:f (.string ⟨(kb (pf vs x)).toArray⟩)=none:=by
   cases hfx:f (.string ⟨(kb (pf vs x)).toArray⟩) with
   | none=>rfl
   | some v =>
     obtain⟨i,y,k1,k2,_⟩:=(h2 _ _).1 hfx
     have hy:∀ e∈exps y,(e:Int)∈vs:=fun e he=>h.wv.mem_exps (jM k1) he
     have e1:kb (pf vs x)=kb (pf vs y):=by simpa using k2
     have e2:=kb_inj (pf_places hv hx) (pf_places hv hy) e1
     have e3:=pf_inj h.wv hx hy e2
     subst e3
     exact absurd (jM k1) hm
  have:=(h1.kept hW).look true law9 Tryz.underlying121 (zero3 W') hl
  simpa [hf] using this
theorem zh {l:List UInt8}(h:BRow W v l)(hb:∀ b,v.ownBlock=some b→W'.heap[b]? = W.heap[b]?): (Go.convert 40 9 v).run Tryz.prog W'=.ok (.string ⟨l.toArray⟩) W':=by
 have u5:Tryz.prog.underlying 5=some (.int .u8):=by kernel_rfl
 have u9:Tryz.prog.underlying 9=some .string:=by kernel_rfl
 have h':BRow W' v l:=jJ h hb
 obtain⟨h1,⟨rfl,h2⟩ | ⟨g,cap,cur,rfl,h3,h4,h5,h6,h7,h8⟩⟩:=h'
 ·have:l=[]:=List.length_eq_zero_iff.1 h2
  subst this
  rw[run_convert_bytes_string W' 40 9 5 none 0 0 un40 u5 u9]
  simp[Conv.bytesToString];rfl
 ·refine run_convert_bytes_back W' 40 9 5 ⟨g,0,none⟩ cap l un40 u5 u9 fun j hj=>?_
  have hadd:(⟨g,0,none⟩:Addr).add j=⟨g,j,none⟩:=by unfold Addr.add; split <;>simp_all
  rw[hadd,jB h4,← Array.getElem?_toList]
  have e:(l.map fun b=>Value.int .u8 (b.toNat:Nat))[j]? = some (.int .u8 (l[j].toNat:Nat)):=by simp[hj]
  rw[← e,← h8,List.getElem?_take_of_lt (by omega)]
theorem jI {b c:Nat}{x y:Array Value}{e f:TypeId}{z u:Nat×Nat}(h:W.heap[b]? = some (.cells x e z))(k:W.heap[c]? = some (.cells y f u))(hn:e≠f): b≠c:=by
 rintro rfl
 rw[h] at k; cases k; exact hn rfl
theorem jO {base e size n:Nat}{xs:List Value}(h:W.ownsRow base e size v n xs){b:Nat}(hb:v.ownBlock=some b): ∃ c,W.heap[b]? = some (.cells c e (0,0)):=by
 obtain⟨_,⟨rfl,_⟩ | ⟨g,cap,cur,rfl,_,h4,_⟩⟩:=h
 ·cases hb
 ·cases hb; exact⟨_,h4⟩
theorem WO.pushed (h:WO C W p F D vs gk m){x:Int}(hn:x∉vs)(hx:∀ e∈exps x,(e:Int)∈vs)(hm:m+1+C.length≤2147483648){fv':Value}(hv:TRow W v (pf vs x)){W2:World} 
 (hown:W2.ownsRow 0 111 1 fv' (vs.length+1) (D.fl++[v])) (hg:W.grownBy W2 D.fv.ownBlock) :
 ∃ W4,(Instr.mapUpdate 121 (.map (some D.mp)) (.string ⟨(kb (pf vs x)).toArray⟩) (.int .i64 (vs.length:Nat))).run Tryz.prog (W2.setCell ⟨p,0,none⟩ fv').drew=.ok () W4 ∧
  WO C W4 p (fv'.ownBlock.toList++v.ownBlock.toList++F) ⟨fv',D.mp,D.mg,D.mo,D.fl++[v]⟩ (vs++[x]) gk (m+1)∧Fr F W W4:=by
 have hvl:=h.vlen
 have hl:keyOf Tryz.prog 9 (.string ⟨(kb (pf vs x)).toArray⟩)=some (.string (kb (pf vs x))):=keyStr (by
  have:=pf_len hvl hx
  show (kb (pf vs x)).toArray.size≤maxLen
  rw[List.size_toArray,kb_len];simp only[maxLen];omega)
 obtain⟨fp,p1,p2⟩:=h.plc
 obtain⟨fg,g1,g2,g3⟩:=h.grt
 obtain⟨fo,o1,o2⟩:=h.ord
 have hpl:p<W.heap.size:=h.blt p h.inF.1
 have hsz:=hg.size
 have k2:∀ b,b<W.heap.size→b≠p→some b≠D.fv.ownBlock→(W2.setCell ⟨p,0,none⟩ fv').drew.heap[b]? = W.heap[b]?:=fun b hb hp hf =>
  (jS _ _ _ _ hp).trans (hg.block b hb hf)
 have pfv:some p≠D.fv.ownBlock:=by
  intro e
  obtain⟨c,hc⟩:=jO h.forms e.symm
  exact jI h.obj hc (by decide) rfl
 have hp2:W2.heap[p]? = some (.cells #[D.fv,.map (some D.mp),.map (some D.mg),.map (some D.mo)] 125 (0,0)):=(hg.block p hpl pfv).trans h.obj
 have hp3:(W2.setCell ⟨p,0,none⟩ fv').drew.heap[p]? = some (.cells #[fv',.map (some D.mp),.map (some D.mg),.map (some D.mo)] 125 (0,0)):=by
  have:=heap_setCell_same W2 p 0 _ 125 fv' hp2
  exact this
 have mapk:∀ {k:TypeId} {mm:Nat} {f:Value→Option Value},MapF Tryz.prog k W mm f→(W2.setCell ⟨p,0,none⟩ fv').drew.heap[mm]? = W.heap[mm]?:=fun {k mm f} hm'=>by
  refine k2 mm hm'.lt ?_ ?_
  ·exact (qD ⟨_,_,_,h.obj⟩ hm').symm
  ·intro e; exact qD (jh h.forms e.symm) hm' rfl
 have rowk:∀ {u:Value} {l:List PT},TRow W u l→TRow (W2.setCell ⟨p,0,none⟩ fv').drew u l:=fun {u l} hu =>
  jJ hu fun b e=>by
   obtain⟨c,hc⟩:=jO hu e
   refine k2 b (jP hu e) (jI hc h.obj (by decide)) ?_
   intro e2
   obtain⟨c2,hc2⟩:=jO h.forms e2.symm
   exact jI hc hc2 (by decide) rfl
 have hfv2:(W2.setCell ⟨p,0,none⟩ fv').drew.ownsRow 0 111 1 fv' (vs.length+1) (D.fl++[v]):=jJ hown fun b e=>by
  obtain⟨c,hc⟩:=jO hown e
  exact jS _ _ _ _ (jI hc hp2 (by decide))
 have hs3:(W2.setCell ⟨p,0,none⟩ fv').drew.heap.size=W2.heap.size:=by simp
 have e1:(W2.setCell ⟨p,0,none⟩ fv').drew.os=W.os:=hg.os
 have e2:(W2.setCell ⟨p,0,none⟩ fv').drew.tape=W.tape:=hg.tape
 have e3:(W2.setCell ⟨p,0,none⟩ fv').drew.output=W.output:=hg.output
 generalize (W2.setCell ⟨p,0,none⟩ fv').drew=W3 at *
 obtain⟨W4,hrun,M4,s4,G4⟩:=(p1.kept (mapk p1)).store law9 Tryz.underlying121 (v:=.int .i64 (vs.length:Nat)) hl
 have k4:∀ b,b<W3.heap.size→b≠D.mp→W4.heap[b]? = W3.heap[b]?:=fun b hb hne=>G4.block b hb (by intro e; cases e; exact hne rfl)
 have hxs:∀ y∈vs,∀ e∈exps y,(e:Int)∈vs:=fun y hy e he=>h.wv.mem_exps hy he
 have hpre:vs <+: vs++[x]:=List.prefix_append _ _
 have hpf:∀ y∈vs,pf (vs++[x]) y=pf vs y:=fun y hy=>pf_ext hpre h.wv (hxs y hy)
 have hpfx:pf (vs++[x]) x=pf vs x:=pf_ext hpre h.wv hx
 have cellk:∀ b,(∃ c e z,W3.heap[b]? = some (Obj.cells c e z))→W4.heap[b]? = W3.heap[b]?:=fun b hb=>by
  refine k4 b ?_ (qD hb (p1.kept (mapk p1)))
  obtain⟨c,e,z,hb⟩:=hb
  exact (jA hb).1
 have hget:∀ {i:Nat} {y:Int},(vs++[x])[i]? = some y→(vs[i]? = some y∧i<vs.length)∨(i=vs.length∧y=x):=fun {i y} hi=>by
  rcases Nat.lt_or_ge i vs.length with hlt | hge
  ·rw[List.getElem?_append_left hlt] at hi; exact .inl ⟨hi,hlt⟩
  ·rw[List.getElem?_append_right hge] at hi
   obtain⟨h0,h1⟩:=jL hi
   have hi0:i=vs.length:=by simp at h0; omega
   simp[hi0] at h1
   exact .inr ⟨hi0,h1.symm⟩
 have hgo:∀ {i:Nat} {y:Int},vs[i]? = some y→(vs++[x])[i]? = some y:=fun {i y} hi=>jW hpre hi
 have hlast:(vs++[x])[vs.length]? = some x:=by simp
 have hfll:D.fl.length=vs.length:=by have:=h.forms.1; omega
 have wsz:W.heap.size≤W4.heap.size:=by omega
 refine⟨W4,hrun,?_,?_⟩
 ·exact {
   wv:=h.wv.push hn hx
   obj:=(cellk p ⟨_,_,_,hp3⟩).trans hp3
   inF:=by have:=h.inF; simp only[List.mem_append];exact⟨.inr this.1,.inr this.2.1,.inr this.2.2.1,.inr this.2.2.2⟩
   ne:=h.ne
   forms:=by
    rw[List.length_append]
    exact jJ hfv2 fun b e=>cellk b (jh hfv2 e)
   fblk:=fun b e=>by have e':fv'.ownBlock=some b:=e; rw[e'];simp
   rows:=fun i y hi=>by
    rcases hget hi with ⟨hi,hlt⟩ | ⟨rfl,rfl⟩
    ·obtain⟨u,r1,r2,r3⟩:=h.rows i y hi
     refine⟨u,?_,?_,fun b e=>by simp only[List.mem_append];exact .inr (r3 b e)⟩
     ·show (D.fl++[v])[i]? = _
      rw[List.getElem?_append_left (by omega)];exact r1
     ·rw[hpf y (jM hi)]
      exact jJ (rowk r2) fun b e=>cellk b (jh (rowk r2) e)
    ·refine⟨v,?_,?_,fun b e=>by rw[e];simp⟩
     ·show (D.fl++[v])[vs.length]? = _
      rw[List.getElem?_append_right (by omega)];simp[hfll]
     ·rw[hpfx]
      exact jJ (rowk hv) fun b e=>cellk b (jh (rowk hv) e)
   plc:=by
    refine⟨_,M4,fun k u=>?_⟩
    unfold updF
    by_cases hk:k=.string ⟨(kb (pf vs x)).toArray⟩
    ·rw[if_pos hk]
     constructor
     ·intro e; cases e
      exact⟨vs.length,x,hlast,by rw[hpfx];exact hk,rfl⟩
     ·rintro⟨i,y,hi,e1,rfl⟩
      rcases hget hi with ⟨hi,hlt⟩ | ⟨rfl,rfl⟩
      ·exfalso
       rw[hpf y (jM hi)] at e1
       rw[hk] at e1
       have e2:kb (pf vs x)=kb (pf vs y):=by simpa using e1
       have e3:=kb_inj (pf_places hvl hx) (pf_places hvl (hxs y (jM hi))) e2
       have e4:=pf_inj h.wv hx (hxs y (jM hi)) e3
       subst e4
       exact hn (jM hi)
      ·rfl
    ·rw[if_neg hk,p2]
     constructor
     ·rintro⟨i,y,hi,rfl,rfl⟩
      exact⟨i,y,hgo hi,by rw[hpf y (jM hi)],rfl⟩
     ·rintro⟨i,y,hi,e1,rfl⟩
      rcases hget hi with ⟨hi,hlt⟩ | ⟨rfl,rfl⟩
      ·exact⟨i,y,hi,by rw[← hpf y (jM hi)];exact e1,rfl⟩
      ·exact absurd (by rw[← hpfx];exact e1) hk
   grt:=by
    refine⟨fg,(g1.kept (mapk g1)).kept (k4 _ (g1.kept (mapk g1)).lt (by exact h.ne.1.symm)),fun k u hk=>?_,fun e he=>?_⟩
    ·obtain⟨i,j,e,a1,a2,a3⟩:=g2 k u hk
     exact⟨i,j,e,hgo a1,hgo a2,a3⟩
    ·obtain⟨i,a1,a2⟩:=g3 e he
     exact⟨i,hgo a1,a2⟩
   ord:=by
    refine⟨fo,(o1.kept (mapk o1)).kept (k4 _ (o1.kept (mapk o1)).lt (by exact h.ne.2.1.symm)),fun k u hk=>?_⟩
    obtain⟨a,b,y,z,a1,a2,a3⟩:=o2 k u hk
    exact⟨a,b,y,z,hgo a1,hgo a2,a3⟩
   gnd:=h.gnd
   cov:=h.cov
   len:=by have:=h.len; simp; omega
   bnd:=hm
   blt:=fun b hb=>by
    simp only[List.mem_append,Option.mem_toList] at hb
    rcases hb with (hb | hb) | hb
    ·have:=jP hfv2 hb; omega
    ·have:=jP hv hb; omega
    ·have:=h.blt b hb; omega }
 ·refine⟨G4.os.trans e1,G4.tape.trans e2,G4.output.trans e3,wsz,fun b hb hnF=>?_⟩
  rw[k4 b (by omega) (fun e=>hnF (e▸h.inF.2.1))]
  exact k2 b hb (fun e=>hnF (e▸h.inF.1)) (fun e=>hnF (h.fblk b e.symm))
end
end
theorem qA (w:World)(a b:Obj): ((w.alloc a).alloc b).heap[w.heap.size+1]? = some b:=by have:=jD (w.alloc a) b; rwa [jY] at this
theorem u8z (n:Nat): (((UInt8.ofNat n).toNat:Nat):Int)=(n:Int) % 256:=by simp
theorem kb1_cells (s:Bool)(n:Nat)(c:Int)(hc:c=if s then 1 else 0): (#[Value.int .u8 c,.int .u8 ((n:Int) / 16777216 % 256),.int .u8 ((n:Int) / 65536 % 256),.int .u8 ((n:Int) / 256 % 256),.int .u8 ((n:Int) % 256)]).toList=(kb1 (s,n)).map fun b=>.int .u8 (b.toNat:Nat):=by
 simp only[kb1,List.map_cons,List.map_nil,u8z]
 subst hc
 cases s <;>simp
theorem j8 {α:Type}{l:List α}{k:Nat}{x:α}(h:l[k]? = some x): l.take (k+1)=l.take k++[x]:=by
 rw[List.take_add_one,h];rfl
theorem kb_append (a b:List PT): kb (a++b)=kb a++kb b:=by simp[kb]
theorem WO.weaken {C:List Nat}{W:World}{p:Nat}{F:List Nat}{D:WD}{vs:List Int}{gk:List Nat}{m m':Nat}(h:WO C W p F D vs gk m)(hm:vs.length≤m'+gk.length)(hb:m'+C.length≤2147483648): WO C W p F D vs gk m' :=
 { h with len:=hm,bnd:=hb }
structure Put (C:List Nat)(W W':World)(p:Nat)(F F':List Nat)(D':WD)(vs':List Int)(gk':List Nat)(m':Nat)(may:Nat→Prop): Prop where
 wo:WO C W' p F' D' vs' gk' m'
 fr:Fr F W W'
 sub:∀ b∈F',b∈F∨W.heap.size≤b∨may b
theorem id_calls {C:List Nat}{W:World}{p:Nat}{F:List Nat}{D:WD}{vs:List Int}{gks:List Nat}{m:Nat}(H:Hid (WO C W p F D vs gks m))(v:Value)(x:Int)(hx:∀ e∈exps x,(e:Int)∈vs)(hl0:TRow W v (pf vs x))(hm:m+1+C.length≤2147483648):
 Calls Tryz.prog 99 #[.pointer (some ⟨p,0,none⟩),v] W fun e W'=>∃ (F':List Nat) (D':WD),e=.returned (.int .i64 ((putIn vs x).idxOf x:Nat))∧Hid (Put C W W' p F F' D' (putIn vs x) gks (m+1) (fun b=>v.ownBlock=some b)):=by
 have hvl:=H.out.vlen
 have hlen:(pf vs x).length≤4294967296:=by have:=pf_len hvl hx; omega
 have HP:Hid (∀ e∈exps x,(e:Int)∈vs):=hx
 have HM:Hid (m+1+C.length≤2147483648):=hm
 clear hx hm hvl
 obtain⟨l,hlE⟩:∃ l,l=pf vs x:=⟨_,rfl⟩
 rw[← hlE] at hl0 hlen
 have HE:Hid (l=pf vs x):=hlE
 clear hlE
 have Hl:Hid (TRow W v l):=hl0
 have hl:=hl0
 clear hl0
 obtain⟨va,ca,rfl,_,_⟩:=hl.shape
 obtain⟨N,hN⟩:∃ N,N=5*l.length:=⟨_,rfl⟩
 have hC1:5*(l.length:Int)=(N:Int):=by omega
 have hw5:IntKind.i64.wrap (N:Int)=(N:Int):=IntWalk.i64_in _ (by omega)
 have hb4:N≤1099511627776:=by omega
 have HN:Hid (N=5*l.length):=hN
 clear hN
 clear hl
 go_enter Tryz.func99,Tryz.ntmps99
 go_wp2_with (at_make; go_loud (refine make_B rfl _ _ rfl N rfl _ rfl rfl hb4 ?_);intro w1 hown1 hg1)
 have B0:Hid (Below W.heap.size W w1):=(Below.refl W.heap.size W).grown hg1 (jR _) (fun k hk=>by cases hk)
 have K0:Hid (BRow w1 (.slice (some ⟨W.heap.size,0,none⟩) 0 N) []):=hown1
 clear hown1 hg1
 go_loopg [5,17] l.length (fun g1 vx vi wr=>∃ (k:Nat) (vb:Value),vx=vb∧vi=.int .i64 k∧k≤l.length∧l.length - k≤g1∧Hid (BRow wr vb (kb (l.take k)))∧Hid (Below W.heap.size W wr)∧Hid (∀ b,vb.ownBlock=some b→W.heap.size≤b))
 case atStart=>exact⟨0,_,rfl,rfl,by omega,by omega,K0,B0,fun b hb=>by cases hb; exact jR _⟩
 case round =>
  clear B0 K0
  obtain⟨k,vb,rfl,rfl,hkl,hg,HK,HB,HO⟩:=hrel
  by_cases hk:k<l.length
  ·have hkz:(k:Int)<(l.length:Int):=by omega
   have hk0:(0:Int)≤(k:Int):=Int.natCast_nonneg k
   have hkw:IntKind.i64.wrap ((k:Int)+1)=(k:Int)+1:=IntWalk.i64_in _ (by omega)
   obtain⟨_,_,ea,_,sa⟩:=TRow.shape (jK Hl.out HB.out)
   cases ea
   obtain⟨⟨sx,ax⟩,hx⟩:∃ x,l[k]? = some x:=⟨_,jG hk⟩
   obtain⟨ga,rfl,cx0,cx1⟩:=sa k _ hx
   have Hx:Hid _:=hx
   dsimp only at cx0 cx1
   have la0:ga<wr.heap.size:=jg cx0
   have la1:ga≠wr.heap.size:=by omega
   have la2:ga≠wr.heap.size+1:=by omega
   clear sa hx
   have hbl:(kb (l.take k)).length+5≤1099511627776:=by rw[kb_len,List.length_take];omega
   have hsz:=HB.out.size
   cases sx
   ·
    have HK1:Hid (∀ a b,BRow ((wr.alloc a).alloc b) u5 (kb (l.take k))):=fun a b=>World.ownsRow.alloc (World.ownsRow.alloc HK.out a) b
    have HB1:Hid (∀ a b,Below W.heap.size W ((wr.alloc a).alloc b)):=fun a b=>(HB.out.alloc hsz a).alloc (by simp; omega) b
    clear HK HB
    go_wp2_with (at_builtin; go_loud (refine app_B rfl _ _ rfl u5 (kb (l.take k)) rfl (HK1.out _ _) _ 5 (kb1 (false,ax)) rfl rfl _ (kb1_cells false ax _ rfl) (qA _ _ _) hbl ?_);intro v' w3 K3 G3 A3)
    go_roundg (l.length - (k+1))
    case measure=>omega
    case rel =>
     refine⟨k+1,v',rfl,by go_num,by omega,by omega,?_,?_,?_⟩
     ·show BRow _ _ _
      rw[j8 Hx.out,kb_append];exact K3
     ·exact (HB1.out _ _).grown G3 (by simp; omega) (fun b hb=>HO.out b hb)
     ·show ∀ b,_
      intro b hb
      rcases A3 with A3 | A3
      ·exact HO.out b (A3▸hb)
      ·rw[A3] at hb; cases hb; simp; omega
   ·
    have HK1:Hid (∀ a b,BRow ((wr.alloc a).alloc b) u5 (kb (l.take k))):=fun a b=>World.ownsRow.alloc (World.ownsRow.alloc HK.out a) b
    have HB1:Hid (∀ a b,Below W.heap.size W ((wr.alloc a).alloc b)):=fun a b=>(HB.out.alloc hsz a).alloc (by simp; omega) b
    clear HK HB
    go_wp2_with (at_builtin; go_loud (refine app_B rfl _ _ rfl u5 (kb (l.take k)) rfl (HK1.out _ _) _ 5 (kb1 (true,ax)) rfl rfl _ (kb1_cells true ax _ rfl) (qA _ _ _) hbl ?_);intro v' w3 K3 G3 A3)
    go_roundg (l.length - (k+1))
    case measure=>omega
    case rel =>
     refine⟨k+1,v',rfl,by go_num,by omega,by omega,?_,?_,?_⟩
     ·show BRow _ _ _
      rw[j8 Hx.out,kb_append];exact K3
     ·exact (HB1.out _ _).grown G3 (by simp; omega) (fun b hb=>HO.out b hb)
     ·show ∀ b,_
      intro b hb
      rcases A3 with A3 | A3
      ·exact HO.out b (A3▸hb)
      ·rw[A3] at hb; cases hb; simp; omega
  ·have hkz:¬ ((k:Int)<(l.length:Int)):=by omega
   have HX:Hid (WO C wr p F D vs gks m):=H.out.below HB.out
   have HR:Hid (TRow wr (.slice va l.length ca) l):=jK Hl.out HB.out
   have HF:Hid (Fr F W wr):=Fr.of_below HB.out
   have HK2:Hid (BRow wr u5 (kb (pf vs x))):=by
    have:=HK.out
    rw[List.take_of_length_le (by omega),HE.out] at this
    exact this
   have hc1:=HX.out.c1
   have hcv:(Go.convert 40 9 u5).run Tryz.prog wr.drew=.ok (.string ⟨(kb (pf vs x)).toArray⟩) wr.drew:=zh HK2.out fun _ _=>rfl
   clear HK HB hkl hg
   rcases HX.out.lookPlc HP.out with ⟨hn,HL⟩ | ⟨hn,HL⟩
   ·have hlk:=HL wr.drew rfl
    clear HL
    go_wp2_with fail
    go_region_held3 (fun w'=>w'.cell? ⟨p,1,none⟩=some (.map (some D.mp))∧(Go.convert 40 9 u5).run Tryz.prog w'=.ok (.string ⟨(kb (pf vs x)).toArray⟩) w'∧(Instr.lookup 121 (.map (some D.mp)) (.string ⟨(kb (pf vs x)).toArray⟩) true).run Tryz.prog w'=.ok (.tuple #[.int .i64 0,.bool false]) w')
     (exact⟨hc1,hcv,hlk⟩) (fail)
    clear hcv hlk
    obtain⟨g,cap,hfv,hgF,_⟩:=HX.out.formAt
    have hc0:wr.cell? ⟨p,0,none⟩=some (.slice (some ⟨g,0,none⟩) vs.length cap):=by rw[← hfv];exact HX.out.c0
    have HO2:Hid (∀ o,((wr.alloc o).drew).ownsRow 0 111 1 (.slice (some ⟨g,0,none⟩) vs.length cap) vs.length D.fl):=fun o=>by
     rw[← hfv];exact World.ownsRow.alloc HX.out.forms o
    have hvl:vs.length+1≤1099511627776:=by have:=HX.out.vlen; omega
    have hpg:Hid (some p≠(Value.slice (some ⟨g,0,none⟩) vs.length cap).ownBlock):=by
     intro e
     rw[← hfv] at e
     obtain⟨c,hc⟩:=jO HX.out.forms e.symm
     exact jI HX.out.obj hc (by decide) rfl
    go_wp2_with (at_builtin; go_loud (refine app_F1 rfl _ _ rfl (.slice (some ⟨g,0,none⟩) vs.length cap) vs.length D.fl rfl (HO2.out _) wr.heap.size (.slice va l.length ca) rfl rfl (jD _ _) hvl ?_);intro v' w3 O3 G3 N3 A3
                 have hp3:w3.heap[p]? = some (.cells #[D.fv,.map (some D.mp),.map (some D.mg),.map (some D.mo)] 125 (0,0)):=(G3.block p (by have:=HX.out.blt p HX.out.inF.1; simp; omega) hpg.out).trans ((jE wr _ (HX.out.blt p HX.out.inF.1)).trans HX.out.obj)
                 have q0:w3.cell? ⟨p,0,none⟩=some D.fv:=by rw[jB hp3];rfl
                 have f0:=jF hp3 0
                 obtain⟨g3,cap3,rfl,_,_⟩:=O3.form (Nat.succ_pos _))
    obtain⟨W4,hrun,HW4,HF4⟩:=WO.pushed (HX.out.alloc (.cells #[.slice va l.length ca] 111)).drew hn HP.out HM.out (v:=.slice va l.length ca) (fv':=.slice (some ⟨g3,0,none⟩) (vs.length+1) cap3) (W2:=w3)
     (by rw[← HE.out];exact World.ownsRow.alloc HR.out _) O3 (by rw[hfv];exact G3)
    have hc1':(w3.setCell ⟨p,0,none⟩ (.slice (some ⟨g3,0,none⟩) (vs.length+1) cap3)).drew.cell? ⟨p,1,none⟩=some (.map (some D.mp)):=by
     have:=heap_setCell_same w3 p 0 _ 125 (.slice (some ⟨g3,0,none⟩) (vs.length+1) cap3) hp3
     exact (jB (W:=(w3.setCell ⟨p,0,none⟩ (.slice (some ⟨g3,0,none⟩) (vs.length+1) cap3)).drew) this 1).trans rfl
    have hcv':(Go.convert 40 9 u5).run Tryz.prog (w3.setCell ⟨p,0,none⟩ (.slice (some ⟨g3,0,none⟩) (vs.length+1) cap3)).drew=.ok (.string ⟨(kb (pf vs x)).toArray⟩) (w3.setCell ⟨p,0,none⟩ (.slice (some ⟨g3,0,none⟩) (vs.length+1) cap3)).drew:=zh HK2.out fun b hb=>by
     obtain⟨c,hc⟩:=jO HK2.out hb
     obtain⟨c2,hc2⟩:=jO HX.out.forms (b:=g) (by rw[hfv];rfl)
     have hlt:=jP HK2.out hb
     refine (jS _ _ _ _ (jI hc HX.out.obj (by decide))).trans ((G3.block b (by simp; omega) ?_).trans (jE wr _ hlt))
     intro e
     have e':b=g:=by simpa [Value.ownBlock] using e
     exact jI hc hc2 (by decide) e'
    have HQ:Hid (Put C W W4 p F ([g3]++(Value.slice va l.length ca).ownBlock.toList++F) ⟨.slice (some ⟨g3,0,none⟩) (vs.length+1) cap3,D.mp,D.mg,D.mo,D.fl++[.slice va l.length ca]⟩ (putIn vs x) gks (m+1) (fun b=>(Value.slice va l.length ca).ownBlock=some b)):=by
     have e1:putIn vs x=vs++[x]:=by unfold putIn; rw[if_neg hn]
     rw[e1]
     refine⟨HW4,Fr.pre (HF.out.alloc _).drew HF4,fun b hb=>?_⟩
     simp only[List.mem_append,List.mem_singleton,Option.mem_toList] at hb
     rcases hb with (rfl | hb) | hb
     ·rcases A3 with A3 | A3
      ·have:b=g:=by simpa [Value.ownBlock] using A3
       exact .inl (this▸hgF)
      ·have h1:b=wr.heap.size+1:=by simpa [Value.ownBlock] using A3
       have h2:=HF.out.size
       exact .inr (.inl (by omega))
     ·exact .inr (.inr hb)
     ·exact .inl hb
    have HI:Hid ((putIn vs x).idxOf x=vs.length):=by
     have e1:putIn vs x=vs++[x]:=by unfold putIn; rw[if_neg hn]
     have:=HQ.out.wo.wv
     rw[e1] at this ⊢
     exact this.idx_get (by simp)
    clear HW4 HF4 hc1 hc0 q0 f0 hp3 O3 G3 N3 A3
    go_region
    go_wp2_with fail
    go_ret
    exact⟨_,_,congrArg (fun (n:Nat)=>Ending.returned (.int .i64 (n:Nat))) HI.out.symm,HQ⟩
   ·have hlk:=HL wr.drew rfl
    clear HL
    go_wp2_with fail
    go_region_held3 (fun w'=>w'.cell? ⟨p,1,none⟩=some (.map (some D.mp))∧(Go.convert 40 9 u5).run Tryz.prog w'=.ok (.string ⟨(kb (pf vs x)).toArray⟩) w'∧(Instr.lookup 121 (.map (some D.mp)) (.string ⟨(kb (pf vs x)).toArray⟩) true).run Tryz.prog w'=.ok (.tuple #[.int .i64 (vs.idxOf x:Nat),.bool true]) w')
     (exact⟨hc1,hcv,hlk⟩) (fail)
    go_wp2_with fail
    go_ret
    have e1:putIn vs x=vs:=by unfold putIn; rw[if_pos hn]
    refine⟨F,D,by rw[e1];rfl,?_⟩
    rw[e1]
    have hb:=HM.out
    have hle:=HX.out.len
    exact⟨HX.out.drew.weaken (by omega) hb,HF.out.drew,fun b hb=>.inl hb⟩
theorem zX {W:World}{v:Value}{l:List PT}(hl:TRow W v l)(hlen:l.length≤1000000000000):
 Calls Tryz.prog 98 #[v] W fun e W'=>∃ v',e=.returned v'∧Hid (TRow W' v' l)∧Hid (Below W.heap.size W W')∧Hid (∀ b,v'.ownBlock=some b→W.heap.size≤b):=by
 have Hl:Hid (TRow W v l):=hl
 obtain⟨h1,⟨rfl,h2⟩ | ⟨g,cap,cur,rfl,h3,h4,h5,h6,h7,h8⟩⟩:=hl
 ·have Hn:Hid (l=[]):=List.length_eq_zero_iff.1 h2
  have he:∀ w:World,(binOp .eql 111 (.slice none 0 0) (.slice none 0 0)).run Tryz.prog w=.ok (.bool true) w:=fun w=>Lib.run_eql_slice_nil_nil w _ _ un111
  clear h1 h2
  go_enter Tryz.func98,Tryz.ntmps98
  go_wp2_with fail
  go_ret
  exact⟨_,rfl,Hl,Below.refl _ _,fun b hb=>by cases hb⟩
 ·have HN:Hid (∀ j u,(tcells l)[j]? = some u→(W.alloc (.cells #[] 154)).cell? ((⟨g,0,none⟩:Addr).add j)=some u):=fun j u hu =>
   (World.ownsRow.alloc Hl.out _).cells (g:=g) rfl j u hu
  have HM:Hid (TRow (W.alloc (.cells #[] 154)) (.slice (some ⟨W.heap.size,0,none⟩) 0 0) []):=World.ownsRow_made W #[] 0 (Nat.zero_le _) (Nat.zero_le _) rfl
  have hb:([]:List PT).length+l.length≤1099511627776:=by simp; omega
  have he:∀ w:World,(binOp .eql 111 (.slice (some ⟨g,0,none⟩) l.length cap) (.slice none 0 0)).run Tryz.prog w=.ok (.bool false) w:=fun w=>Lib.run_eql_slice_some_nil w _ _ _ un111
  clear h1 h3 h4 h5 h6 h7 h8
  go_enter Tryz.func98,Tryz.ntmps98
  go_wp2_with (at_builtin; go_loud (refine app_T rfl _ _ rfl (.slice (some ⟨W.heap.size,0,none⟩) 0 0) [] rfl HM.out ⟨g,0,none⟩ cap l.length l rfl rfl HN.out hb ?_);intro v' w3 K3 G3 N3 A3)
  go_ret
  refine⟨v',rfl,K3,?_,?_⟩
  ·exact ((Below.refl _ _).alloc (jR _) _).grown G3 (by simp) (fun b hb=>by cases hb; exact jR _)
  ·intro b hb
   rcases A3 with A3 | A3
   ·rw[A3] at hb; cases hb; exact jR _
   ·rw[A3] at hb; cases hb; simp
section
theorem qT:∀ (l:List PT) (i:Nat) (t:PT),tcells (l.set i t)=((tcells l).set (i*2) (.bool t.1)).set (i*2+1) (.int .i64 (t.2:Nat))
 | [],_,_=>rfl
 | s::l,0,t=>rfl
 | s::l,i+1,t=>by
   have e:tcells (s::l)=.bool s.1::.int .i64 (s.2:Nat)::tcells l:=rfl
   have e2:tcells ((s::l).set (i+1) t)=.bool s.1::.int .i64 (s.2:Nat)::tcells (l.set i t):=rfl
   rw[e,e2,qT l i t,show (i+1)*2=i*2+1+1 by omega]
   rfl
variable {W:World}
theorem setT {g n cap i:Nat}{l:List PT}(t:PT)(h:W.ownsRow 0 154 2 (.slice (some ⟨g,0,none⟩) n cap) n (tcells l)):
 ((W.setCell ⟨g,i*2,none⟩ (.bool t.1)).setCell ⟨g,i*2+1,none⟩ (.int .i64 (t.2:Nat))).ownsRow 0 154 2 (.slice (some ⟨g,0,none⟩) n cap) n (tcells (l.set i t)):=by
 obtain⟨h1,⟨h2,_⟩ | ⟨g',cap',cur,hv,_,h4,h5,h6,h7,h8⟩⟩:=h
 ·cases h2
 ·cases hv
  have k1:=heap_setCell_same W g (i*2) cur 154 (.bool t.1) h4
  have k2:=heap_setCell_same _ g (i*2+1) _ 154 (.int .i64 (t.2:Nat)) k1
  refine⟨?_,.inr ⟨g,cap,_,rfl,Nat.zero_le _,k2,h5,h6,by simp[h7],?_⟩⟩
  ·rw[qT];simp[h1]
  ·rw[qT,Array.toList_setIfInBounds,Array.toList_setIfInBounds,List.take_set,List.take_set,h8]
theorem yC {W':World}{row:Option Nat}{g o:Nat}(v:Value)(h:W.grownBy W' row)(hr:row=some g): W.grownBy (W'.setCell ⟨g,o,none⟩ v) row :=
 ⟨h.os,h.tape,h.output,by simpa using h.size,fun k hk hn=>(jS _ _ _ _ (by rintro rfl; exact hn hr.symm)).trans (h.block k hk hn)⟩
theorem grown_drew {W':World}{row:Option Nat}(h:W.grownBy W' row): W.grownBy W'.drew row:=⟨h.os,h.tape,h.output,h.size,h.block⟩
theorem reverse_calls {v:Value}{l:List PT}(hl:TRow W v l)(hlen:l.length≤1000000000000):
 Calls Tryz.prog 100 #[v] W fun e W'=>e=.returned (.tuple #[])∧Hid (TRow W' v l.reverse)∧Hid (W.grownBy W' v.ownBlock):=by
 have Hl:Hid (TRow W v l):=hl
 obtain⟨va,ca,rfl,_,_⟩:=hl.shape
 clear hl
 have hw1:IntKind.i64.wrap ((l.length:Int) - 1)=(l.length:Int) - 1:=IntWalk.i64_in _ (by omega)
 go_enter Tryz.func100,Tryz.ntmps100
 go_wp2_with fail
 go_loopg [2,3] (l.length) (fun g1 vi vj wr=>∃ (k:Nat) (z:Int) (lk:List PT),vi=.int .i64 k∧vj=.int .i64 z∧z+k+1≤l.length∧l.length≤z+k+1∧(k:Int)≤z+1∧l.length - k≤g1∧Hid (wr.ownsRow 0 154 2 (.slice va l.length ca) l.length (tcells lk))∧Hid (lk.length=l.length)∧Hid (W.grownBy wr (Value.slice va l.length ca).ownBlock) ∧
  Hid (∀ i,i<l.length→lk[i]? = if i<k∨l.length≤i+k then l[l.length - 1 - i]? else l[i]?))
 case atStart=>exact⟨0,(l.length:Int) - 1,l,rfl,rfl,by omega,by omega,by omega,by omega,Hl,rfl,World.grownBy.refl _ _,fun i hi=>by show _=_; rw[if_neg (by omega)]⟩
 case round =>
  obtain⟨k,z,lk,rfl,rfl,hz1,hz2,hkz,hg,HT,HLn,HG,HE⟩:=hrel
  by_cases hk:(k:Int)<z
  ·obtain⟨j,rfl⟩:∃ j:Nat,z=j:=⟨z.toNat,by omega⟩
   have hj1:(j:Int)<(l.length:Int):=by omega
   have hk1:(k:Int)<(l.length:Int):=by omega
   have hj0:(0:Int)≤(j:Int):=by omega
   have hk0:(0:Int)≤(k:Int):=by omega
   obtain⟨h1,⟨h2,h3⟩ | ⟨g,cap,cur,hv,_,h4,h5,h6,h7,h8⟩⟩:=HT.out
   ·omega
   ·cases hv
    have hT:=HT.out
    obtain⟨tk,htk⟩:∃ t,lk[k]? = some t:=⟨_,jG (by have:=HLn.out; omega)⟩
    obtain⟨tj,htj⟩:∃ t,lk[j]? = some t:=⟨_,jG (by have:=HLn.out; omega)⟩
    have hLn:=HLn.out
    obtain⟨e0,e1⟩:=qG htk
    obtain⟨d0,d1⟩:=qG htj
    rw[← h8,List.getElem?_take_of_lt (by omega),Array.getElem?_toList,← jB h4] at e0 e1 d0 d1
    have f0:=jF h4 (k*2)
    have f1:=jF h4 (k*2+1)
    have f2:=jF h4 (j*2)
    have f3:=jF h4 (j*2+1)
    have n1:k*2≠j*2:=by omega
    have n2:k*2≠j*2+1:=by omega
    have n3:k*2+1≠j*2:=by omega
    have n4:k*2+1≠j*2+1:=by omega
    have n5:j*2≠k*2:=by omega
    have n6:j*2≠k*2+1:=by omega
    have n7:j*2+1≠k*2:=by omega
    have n8:j*2+1≠k*2+1:=by omega
    clear h1 h4 h5 h6 h7 h8
    go_wp2_with fail
    go_region
    go_wp2_with fail
    go_roundg (l.length - (k+1))
    case measure=>omega
    case rel =>
     refine⟨k+1,(j:Int) - 1,(lk.set k tj).set j tk,by go_num,rfl,by omega,by omega,by omega,jR _,setT tk (setT tj hT),?_,?_,?_⟩
     ·show _=_; simpa using hLn
     ·exact grown_drew (yC (g:=g) _ (yC (g:=g) _ (yC (g:=g) _ (yC (g:=g) _ HG.out rfl) rfl) rfl) rfl)
     ·intro i hi
      have hk':=HE.out k (by omega)
      have hj':=HE.out j (by omega)
      rw[htk,if_neg (by omega)] at hk'
      rw[htj,if_neg (by omega)] at hj'
      by_cases ij:i=j
      ·subst ij
       rw[List.getElem?_set_self (by simp; omega),if_pos (by omega),hk']
       congr 1; omega
      ·rw[List.getElem?_set_ne (Ne.symm ij)]
       by_cases ik:i=k
       ·subst ik
        rw[List.getElem?_set_self (by omega),if_pos (by omega),hj']
        congr 1; omega
       ·rw[List.getElem?_set_ne (Ne.symm ik),HE.out i hi]
        by_cases hc:i<k∨l.length≤i+k
        ·rw[if_pos hc,if_pos (by omega)]
        ·rw[if_neg hc,if_neg (by omega)]
  ·go_wp2_with fail
   go_end0
   refine⟨rfl,?_,HG⟩
   have e:lk=l.reverse:=by
    refine List.ext_getElem? fun i=>?_
    by_cases hi:i<l.length
    ·rw[HE.out i hi,List.getElem?_reverse hi]
     split
     ·rfl
     ·congr 1; omega
    ·rw[List.getElem?_eq_none (by have:=HLn.out; omega),List.getElem?_eq_none (by simp; omega)]
   have:=HT.out
   rw[e] at this
   show Sr.TRow _ _ _
   unfold TRow
   rw[List.length_reverse]
   exact this
end
section
variable {v pv sv:Value} {w:World} {b:Nat} {fl:List Value}
theorem qS {W:World}{base e n:Nat}{xs:List Value}(h:W.ownsRow base e 1 v n xs){k:Nat}{x:Value}(hk:xs[k]? = some x): ∃ g cap,v=.slice (some ⟨g,0,none⟩) n cap∧W.cell? ⟨g,k,none⟩=some x:=by
 have hlt:=(jL hk).1
 obtain⟨h1,⟨_,h2⟩ | ⟨g,cap,cur,h2,_,h4,h5,h6,h7,h8⟩⟩:=h
 ·omega
 ·refine⟨g,cap,h2,?_⟩
  rw[jB h4,← Array.getElem?_toList,← hk,← h8,List.getElem?_take_of_lt (by omega)]
structure NB (w:World)(b:Nat)(pv sv:Value)(fl:List Value)(x:Int): Prop where
 obj:w.heap[b]? = some (.cells #[pv,sv] 158 (0,0))
 parts:w.ownsRow 0 111 1 pv (Sr.parts x).length fl
 rows:∀ (i p:Nat),(Sr.parts x)[i]? = some p→∃ u,fl[i]? = some u∧TRow w u (atPl (Sr.parts x) (p:Int))
 self:TRow w sv (atPl (Sr.parts x) x)
def IsN (w:World)(v:Value)(x:Int): Prop:=allowed x∧((x=0∧v=.agg #[.pointer none])∨(x≠0∧∃ b pv sv fl,v=.agg #[.pointer (some ⟨b,0,none⟩)]∧NB w b pv sv fl x))
theorem NB.below {w':World}{x:Int}(h:NB w b pv sv fl x)(hb:Below w.heap.size w w'): NB w' b pv sv fl x where
 obj:=(hb.block b (jA h.obj).1).trans h.obj
 parts:=jK h.parts hb
 rows:=fun i p hi=>by obtain⟨u,h1,h2⟩:=h.rows i p hi; exact⟨u,h1,jK h2 hb⟩
 self:=jK h.self hb
theorem IsN.below {w w':World}{v:Value}{x:Int}(h:IsN w v x)(hb:Below w.heap.size w w'): IsN w' v x:=by
 obtain⟨h0,h1 | ⟨h1,b,pv,sv,fl,h2,h3⟩⟩:=h
 ·exact⟨h0,.inl h1⟩
 ·exact⟨h0,.inr ⟨h1,b,pv,sv,fl,h2,h3.below hb⟩⟩
theorem self_none (w:World): Calls Tryz.prog 63 #[.agg #[.pointer none]] w fun e w'=>e=.returned (.slice none 0 0)∧∃ o,w'=w.alloc o:=by
 go_enter Tryz.func63,Tryz.ntmps63
 go_wp2_with fail
 go_ret
 exact⟨rfl,_,rfl⟩
theorem self_some {x:Int}(h:NB w b pv sv fl x): Calls Tryz.prog 63 #[.agg #[.pointer (some ⟨b,0,none⟩)]] w fun e w'=>e=.returned sv∧∃ o,w'=w.alloc o:=by
 have c1:w.cell? ⟨b,1,none⟩=some sv:=by rw[jB h.obj];rfl
 have hb:b<w.heap.size:=(jA h.obj).1
 have hb2:b≠w.heap.size:=by omega
 obtain⟨a,c,rfl,_,_⟩:=h.self.shape
 clear h
 go_enter Tryz.func63,Tryz.ntmps63
 go_wp2_with fail
 go_ret
 exact⟨rfl,_,rfl⟩
theorem parts_none (w:World): Calls Tryz.prog 103 #[.agg #[.pointer none]] w fun e w'=>e=.returned (.slice none 0 0)∧∃ o,w'=w.alloc o:=by
 go_enter Tryz.func103,Tryz.ntmps103
 go_wp2_with fail
 go_ret
 exact⟨rfl,_,rfl⟩
theorem parts_some {x:Int}(h:NB w b pv sv fl x): Calls Tryz.prog 103 #[.agg #[.pointer (some ⟨b,0,none⟩)]] w fun e w'=>e=.returned pv∧∃ o,w'=w.alloc o:=by
 have c1:w.cell? ⟨b,0,none⟩=some pv:=by rw[jB h.obj];rfl
 have hb:b<w.heap.size:=(jA h.obj).1
 have hb2:b≠w.heap.size:=by omega
 obtain⟨a,c,rfl⟩:∃ a c,pv=.slice a (Sr.parts x).length c:=by
  obtain⟨_,⟨rfl,h2⟩ | ⟨g,cap,cur,rfl,_⟩⟩:=h.parts
  ·exact⟨none,0,by rw[h2]⟩
  ·exact⟨_,cap,rfl⟩
 clear h
 go_enter Tryz.func103,Tryz.ntmps103
 go_wp2_with fail
 go_ret
 exact⟨rfl,_,rfl⟩
structure Rows (w:World)(v:Value)(x:Int)(pv sv:Value)(fl:List Value): Prop where
 self:Calls Tryz.prog 63 #[v] w fun e w'=>e=.returned sv∧∃ o,w'=w.alloc o
 parts:Calls Tryz.prog 103 #[v] w fun e w'=>e=.returned pv∧∃ o,w'=w.alloc o
 prow:w.ownsRow 0 111 1 pv (Sr.parts x).length fl
 rows:∀ (i p:Nat),(Sr.parts x)[i]? = some p→∃ u,fl[i]? = some u∧TRow w u (atPl (Sr.parts x) (p:Int))
 srow:TRow w sv (atPl (Sr.parts x) x)
theorem yy:Sr.parts 0=[]:=by
 cases h:Sr.parts 0 with
 | nil=>rfl
 | cons p l =>
   exfalso
   have hp:IsPart 0 p:=mem_parts.1 (by rw[h];simp)
   have:∀ {x:Int} {p:Nat},IsPart x p→x=0→False:=fun {x p} hh=>by
    induction hh with
    | here he=>intro e; subst e; simp[exps,j5] at he
    | step _ _ ih=>exact ih
   exact this hp rfl
theorem IsN.get {x:Int}(h:IsN w v x): ∃ pv sv fl,Rows w v x pv sv fl:=by
 obtain⟨_,⟨rfl,rfl⟩ | ⟨_,b,pv,sv,fl,rfl,h2⟩⟩:=h
 ·refine⟨.slice none 0 0,.slice none 0 0,[],self_none w,parts_none w,?_,?_,?_⟩
  ·rw[yy];exact⟨rfl,.inl ⟨rfl,rfl⟩⟩
  ·intro i p hi; rw[yy] at hi; simp at hi
  ·have:atPl (Sr.parts 0) 0=[]:=by simp[atPl,j5]
   rw[this];exact⟨rfl,.inl ⟨rfl,rfl⟩⟩
 ·exact⟨pv,sv,fl,self_some h2,parts_some h2,h2.parts,h2.rows,h2.self⟩
end
theorem setP {W:World}{g n cap i:Nat}{l:List PT}{t:PT}(q:Nat)(hi:l[i]? = some t)(h:W.ownsRow 0 154 2 (.slice (some ⟨g,0,none⟩) n cap) n (tcells l)):
 (W.setCell ⟨g,i*2+1,none⟩ (.int .i64 (q:Nat))).ownsRow 0 154 2 (.slice (some ⟨g,0,none⟩) n cap) n (tcells (l.set i (t.1,q))):=by
 obtain⟨h1,⟨h2,_⟩ | ⟨g',cap',cur,hv,_,h4,h5,h6,h7,h8⟩⟩:=h
 ·cases h2
 ·cases hv
  have k2:=heap_setCell_same W g (i*2+1) _ 154 (.int .i64 (q:Nat)) h4
  obtain⟨e0,_⟩:=qG hi
  have hs:(tcells l).set (i*2) (.bool t.1)=tcells l:=by
   refine List.ext_getElem? fun j=>?_
   by_cases hj:j=i*2
   ·subst hj
    rw[List.getElem?_set_self (jL e0).1,e0]
   ·rw[List.getElem?_set_ne (Ne.symm hj)]
  refine⟨?_,.inr ⟨g,cap,_,rfl,Nat.zero_le _,k2,h5,h6,by simp[h7],?_⟩⟩
  ·rw[qT];simp[h1]
  ·rw[qT,Array.toList_setIfInBounds,List.take_set,h8,hs]
theorem take1_calls {C:List Nat}{W:World}{p:Nat}{F:List Nat}{D:WD}{vs:List Int}{gks:List Nat}{m:Nat}(H:Hid (WO C W p F D vs gks m)){bp bw:Nat}{pv v:Value}{ds:List Nat}{l:List PT}(x:Int) 
 (h1:W.heap[bp]? = some (.cells #[pv] 80 (0,0))) (h2:W.heap[bw]? = some (.cells #[.pointer (some ⟨p,0,none⟩)] 107 (0,0))) (hp:IRow W pv ds) (hl:TRow W v l) (hx:∀ e∈exps x,(e:Int)∈vs)
 (hd:∀ t∈l,t.2<ds.length) (he:l.map (fun t=>(t.1,ds.getD t.2 0))=pf vs x) (hm:m+1+C.length≤2147483648) (hlen:l.length≤1000000) :
 Calls Tryz.prog 102 #[v,.pointer (some ⟨bp,0,none⟩),.pointer (some ⟨bw,0,none⟩)] W fun e W'=>∃ (F':List Nat) (D':WD),e=.returned (.int .i64 ((putIn vs x).idxOf x:Nat))∧Hid (Put C W W' p F F' D' (putIn vs x) gks (m+1) (fun _=>False)):=by
 have HCl:=zX hl (by omega)
 have HP:Hid (IRow W pv ds):=hp
 have H1:Hid (W.heap[bp]? = some (.cells #[pv] 80 (0,0))):=h1
 have H2:Hid (W.heap[bw]? = some (.cells #[.pointer (some ⟨p,0,none⟩)] 107 (0,0))):=h2
 have HD:Hid (∀ t∈l,t.2<ds.length):=hd
 clear h1 h2 hp hd
 go_enter Tryz.func102,Tryz.ntmps102
 go_wp2_with fail
 refine HCl.mono ?_
 rintro y w1 ⟨v1,rfl,hr1,hb1,ho1⟩
 clear HCl
 obtain⟨a1,c1,rfl,_,_⟩:=hr1.out.shape
 have K0:Hid (w1.ownsRow 0 154 2 (.slice a1 l.length c1) l.length (tcells ((l.take 0).map (fun t=>(t.1,ds.getD t.2 0))++l.drop 0))):=hr1.out
 have HO:Hid (∀ b,(Value.slice a1 l.length c1).ownBlock=some b→W.heap.size≤b):=ho1
 clear hr1 ho1
 go_wp2_with fail
 go_loopg [10] l.length (fun g1 vi wr=>∃ k:Nat,vi=.int .i64 k∧k≤l.length∧l.length - k≤g1∧Hid (wr.ownsRow 0 154 2 (.slice a1 l.length c1) l.length (tcells ((l.take k).map (fun t=>(t.1,ds.getD t.2 0))++l.drop k)))∧Hid (Below W.heap.size W wr))
 case atStart=>exact⟨0,rfl,by omega,by omega,K0,hb1⟩
 case round =>
  clear K0 hb1
  obtain⟨k,rfl,hkl,hg,HK,HB⟩:=hrel
  by_cases hk:k<l.length
  ·have hkz:(k:Int)<(l.length:Int):=by omega
   have hk0:(0:Int)≤(k:Int):=Int.natCast_nonneg k
   have hkw:IntKind.i64.wrap ((k:Int)+1)=(k:Int)+1:=IntWalk.i64_in _ (by omega)
   obtain⟨t,ht⟩:∃ t,l[k]? = some t:=⟨_,jG hk⟩
   have htd:=HD.out t (jM ht)
   have hlk:((l.take k).map (fun t=>(t.1,ds.getD t.2 0))++l.drop k)[k]? = some t:=by
    have e2:((l.take k).map (fun t=>(t.1,ds.getD t.2 0))).length=k:=by rw[List.length_map,List.length_take];omega
    rw[List.getElem?_append_right (by omega),e2,Nat.sub_self,List.getElem?_drop,Nat.add_zero,ht]
   obtain⟨q,hq⟩:∃ q,ds[t.2]? = some q:=⟨_,jG htd⟩
   obtain⟨gp,cp,rfl,cq⟩:=qS (k:=t.2) (x:=.int .i64 (q:Nat)) (jK HP.out HB.out) (by rw[List.getElem?_map,hq];rfl)
   have hnx:Hid ((l.take (k+1)).map (fun t=>(t.1,ds.getD t.2 0))++l.drop (k+1)=((l.take k).map (fun t=>(t.1,ds.getD t.2 0))++l.drop k).set k (t.1,q)):=by
    show _=_
    have e1:l.drop k=t::l.drop (k+1):=zy ht
    have e2:((l.take k).map (fun t=>(t.1,ds.getD t.2 0))).length=k:=by rw[List.length_map,List.length_take];omega
    rw[j8 ht,e1,List.map_append,List.append_assoc,List.set_append_right _ _ (by omega),e2,Nat.sub_self]
    simp[hq]
   obtain⟨hh1,⟨hh2,hh3⟩ | ⟨g,cap,cur,hv,_,h4,h5,h6,h7,h8⟩⟩:=HK.out
   ·omega
   ·cases hv
    obtain⟨_,d1⟩:=qG hlk
    rw[← h8,List.getElem?_take_of_lt (by omega),Array.getElem?_toList,← jB h4] at d1
    have f1:=jF h4 (k*2+1)
    have cb:wr.cell? ⟨bp,0,none⟩=some (.slice (some ⟨gp,0,none⟩) ds.length cp):=by
     have hb:bp<W.heap.size:=(jA H1.out).1
     rw[jB ((HB.out.block bp hb).trans H1.out)];rfl
    have t0:(0:Int)≤(t.2:Int):=Int.natCast_nonneg _
    have t1:(t.2:Int)<(ds.length:Int):=by omega
    have HS:Hid _:=setP q hlk HK.out
    have HB2:Hid (Below W.heap.size W (wr.setCell ⟨g,k*2+1,none⟩ (.int .i64 (q:Nat))).drew):=⟨HB.out.os,HB.out.tape,HB.out.output,by have:=HB.out.size; simpa using this,fun b hb=>(jS _ _ _ _ (show b≠g by have:=HO.out g rfl; omega)).trans (HB.out.block b hb)⟩
    clear hh1 h4 h5 h6 h7 h8 hq ht hlk
    go_wp2_with fail
    go_region
    go_wp2_with fail
    go_roundg (l.length - (k+1))
    case measure=>omega
    case rel=>exact⟨k+1,by go_num,by omega,by omega,by show World.ownsRow _ _ _ _ _ _ _; rw[hnx.out];exact HS.out,HB2⟩
  ·have hkz:¬ ((k:Int)<(l.length:Int)):=by omega
   have HR:Hid (TRow wr (.slice a1 l.length c1) (pf vs x)):=by
    have h:=HK.out
    rw[List.take_of_length_le (by omega),List.drop_eq_nil_of_le (by omega),List.append_nil,he] at h
    have hlp:(pf vs x).length=l.length:=by rw[← he,List.length_map]
    show TRow _ _ _
    unfold TRow; rw[hlp];exact h
   have cw:wr.cell? ⟨bw,0,none⟩=some (.pointer (some ⟨p,0,none⟩)):=by
    have hb:bw<W.heap.size:=(jA H2.out).1
    rw[jB ((HB.out.block bw hb).trans H2.out)];rfl
   have HW:Hid (WO C wr p F D vs gks m):=H.out.below HB.out
   have HI:=fun w h hr=>id_calls (C:=C) (W:=w) (p:=p) (F:=F) (D:=D) (vs:=vs) (gks:=gks) (m:=m) h (.slice a1 l.length c1) x hx hr hm
   go_wp2_with fail
   refine (HI _ HW HR.out).mono ?_
   rintro y w9 ⟨F',D',rfl,hput⟩
   go_wp2_with fail
   go_ret
   refine⟨F',D',rfl,hput.out.wo,Fr.pre (Fr.of_below HB.out) hput.out.fr,fun b hb=>?_⟩
   rcases hput.out.sub b hb with q | q | q
   ·exact .inl q
   ·exact .inr (.inl (Nat.le_trans HB.out.size q))
   ·exact .inr (.inl (HO.out b q))
end Sr
