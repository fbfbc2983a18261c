/- Texts of this claim, joined: Step, SortRow, SortA, SortC. -/
import Derived.Test.YtabafgphmbdpgaaGreatDoorTe1
import Derived.Test.YtabafgphmbdpgaaGreatDoorTe3
import Derived.Deep.RegionLaw
import Derived.Deep.RegionHeld3
import Derived.WalkKit
import Derived.Sort.AssemblyPlain
import Derived.RowKit3
import Derived.Test.YtabafgphmbdpgaaGreatDoorProg
import Derived.StillTailTactics
import Derived.Deep.LoopGhost
import Derived.BigRegion
import Derived.BigQuiet
set_option maxHeartbeats 8000000
set_option maxRecDepth 100000
namespace Sr
open Go Go.Proofs Go.RowKit Go.Maps Go.WideMaps
section
variable {ops:Array Oper} {o:Oper} {a:Act} {Q:Exit→Act→World→Prop} {K:Act→World→Prop} {W:World} {E:Prop}
theorem step_I1 (hgd:o.guard=none)(s x:Operand)(ho:o.op=.call { callee:=.builtin .append,args:=#[s,x],argTypes:=#[80,80] }) 
 (v:Value) (l:List Nat) (hs:a.eval s=v) (hown:IRow W v l) (B:Nat) (t:Nat) (hx:a.eval x=.slice (some ⟨B,0,none⟩) 1 1)
 (hB:W.heap[B]? = some (.cells #[.int .i64 (t:Nat)] 3 (0,0))) (hb:l.length+1≤1099511627776) (H:Nat) (hH:W.heap.size=H)
 (h:∀ g cap w',IRow w' (.slice (some ⟨g,0,none⟩) (l.length+1) cap) (l++[t])→W.grownBy w' v.ownBlock→(v.ownBlock=some g∨g=H)→g<w'.heap.size→K (a.put o.dst (.slice (some ⟨g,0,none⟩) (l.length+1) cap)) w') :
 if Region.wanted o (yielded ops a.tmps)=true then Oper.wp Tryz.prog o a W K Q else E:=by
 obtain⟨i,hi,hz0,hz1,hz2⟩:=info_parts info3
 refine step_append_lies W hgd s x 80 ho 0 3 i _ 1 8 un80 hi hz0 hz1 hz2 rfl (by decide) v l.length _ hs hown ⟨B,0,none⟩ 1 1 [.int .i64 (t:Nat)] hx rfl (fun j u hu=>World.news_of_block hB j u hu) (by simp; rfl) (by omega) (by simp only[maxLen];omega) (by omega) (Nat.zero_le _) H hH ?_
 intro g cap w' k1 k2 k3 k4
 refine h g cap w' ?_ k2 k3 k4
 unfold IRow
 rw[List.length_append,List.map_append];exact k1
theorem step_F1 (hgd:o.guard=none)(s x:Operand)(ho:o.op=.call { callee:=.builtin .append,args:=#[s,x],argTypes:=#[120,120] }) 
 (v:Value) (n:Nat) (l:List Value) (hs:a.eval s=v) (hown:W.ownsRow 0 111 1 v n l) (B:Nat) (t:Value) (h1:t.oneCell'=true) (hx:a.eval x=.slice (some ⟨B,0,none⟩) 1 1)
 (hB:W.heap[B]? = some (.cells #[t] 111 (0,0))) (hb:n+1≤1099511627776) (H:Nat) (hH:W.heap.size=H)
 (h:∀ g cap w',w'.ownsRow 0 111 1 (.slice (some ⟨g,0,none⟩) (n+1) cap) (n+1) (l++[t])→W.grownBy w' v.ownBlock→(v.ownBlock=some g∨g=H)→g<w'.heap.size→K (a.put o.dst (.slice (some ⟨g,0,none⟩) (n+1) cap)) w') :
 if Region.wanted o (yielded ops a.tmps)=true then Oper.wp Tryz.prog o a W K Q else E:=by
 obtain⟨i,hi,hz0,hz1,hz2⟩:=info_parts info111
 refine step_append_lies W hgd s x 120 ho 0 111 i _ 1 24 un120 hi hz0 hz1 hz2 rfl (by decide) v n _ hs hown ⟨B,0,none⟩ 1 1 [t] hx rfl (fun j u hu=>World.news_of_block hB j u hu) (by simpa using h1) (by omega) (by simp only[maxLen];omega) (by omega) (Nat.zero_le _) H hH ?_
 intro g cap w' k1 k2 k3 k4
 exact h g cap w' k1 k2 k3 k4
theorem app_I1L {rest:List Oper}(hgd:o.guard=none)(s x:Operand)(ho:o.op=.call { callee:=.builtin .append,args:=#[s,x],argTypes:=#[80,80] }) 
 (v:Value) (l:List Nat) (hs:a.eval s=v) (hown:IRow W v l) (B:Nat) (t:Nat) (hx:a.eval x=.slice (some ⟨B,0,none⟩) 1 1)
 (hB:W.heap[B]? = some (.cells #[.int .i64 (t:Nat)] 3 (0,0))) (hb:l.length+1≤1099511627776) (H:Nat) (hH:W.heap.size=H)
 (h:∀ g cap w',IRow w' (.slice (some ⟨g,0,none⟩) (l.length+1) cap) (l++[t])→W.grownBy w' v.ownBlock→(v.ownBlock=some g∨g=H)→g<w'.heap.size→wpList Tryz.prog ops Q rest (a.put o.dst (.slice (some ⟨g,0,none⟩) (l.length+1) cap)) w') :
 wpList Tryz.prog ops Q (o::rest) a W:=by
 obtain⟨i,hi,hz0,hz1,hz2⟩:=info_parts info3
 refine wpList_append_lies W hgd s x 80 ho 0 3 i _ 1 8 un80 hi hz0 hz1 hz2 rfl (by decide) v l.length _ hs hown ⟨B,0,none⟩ 1 1 [.int .i64 (t:Nat)] hx rfl (fun j u hu=>World.news_of_block hB j u hu) (by simp; rfl) (by omega) (by simp only[maxLen];omega) (by omega) (Nat.zero_le _) H hH ?_
 intro g cap w' k1 k2 k3 k4
 refine h g cap w' ?_ k2 k3 k4
 unfold IRow
 rw[List.length_append,List.map_append];exact k1
end
structure Wt (C:List Nat)(W0 W:World)(p:Nat)(F:List Nat)(D:WD)(vs:List Int)(gk:List Nat)(m:Nat): Prop where
 wo:WO C W p F D vs gk m
 low:Below W0.heap.size W0 W
 hi:∀ b∈F,W0.heap.size≤b
theorem qL {F:List Nat}{W0 W W':World}(h:Below W0.heap.size W0 W)(hi:∀ b∈F,W0.heap.size≤b)(hf:Fr F W W'): Below W0.heap.size W0 W' :=
 ⟨hf.os.trans h.os,hf.tape.trans h.tape,hf.output.trans h.output,Nat.le_trans h.size hf.size,fun b hb=>(hf.block b (Nat.lt_of_lt_of_le hb h.size) (fun hm=>by have:=hi b hm; omega)).trans (h.block b hb)⟩
theorem IsN.get' {w:World}{v:Value}{x:Int}(h:IsN w v x): ∃ pv sv fl,∀ w',Below w.heap.size w w'→Rows w' v x pv sv fl:=by
 obtain⟨h0,⟨h1,rfl⟩ | ⟨h1,b,pv,sv,fl,rfl,h3⟩⟩:=h
 ·subst h1
  refine⟨.slice none 0 0,.slice none 0 0,[],fun w' _=>⟨self_none w',parts_none w',?_,?_,?_⟩⟩
  ·rw[yy];exact⟨rfl,.inl ⟨rfl,rfl⟩⟩
  ·intro i p hi; rw[yy] at hi; simp at hi
  ·have:atPl (Sr.parts 0) 0=[]:=by simp[atPl,j5]
   rw[this];exact⟨rfl,.inl ⟨rfl,rfl⟩⟩
 ·refine⟨pv,sv,fl,fun w' hb=>?_⟩
  have h2:=h3.below hb
  exact⟨self_some h2,parts_some h2,h2.parts,h2.rows,h2.self⟩
end Sr
namespace Go
open Go.Sort Go.RowKit
structure SRow (P:Program)(g:FuncId)(fst cb:Array Value)(cf:Nat→Nat→Int)(blk off n:Nat)(Γ:Type)(K:Γ→Array Nat→World→Prop)(Out:Γ→Nat→Prop): Prop where
 size:∀ {γ d w},K γ d w→d.size=n
 cell:∀ {γ d w},K γ d w→∀ i,i<n→w.cell? ⟨blk,off+i,none⟩=some (.int .i64 (d[i]!:Nat))
 free:∀ {γ d w},K γ d w→∀ i,i<n→w.frozen? ⟨blk,off+i,none⟩=false
 swap:∀ {γ d w},K γ d w→∀ i j,i<n→j<n→K γ (swp d i j) ((w.setCell ⟨blk,off+i,none⟩ (.int .i64 (d[j]!:Nat))).setCell ⟨blk,off+j,none⟩ (.int .i64 (d[i]!:Nat)))
 drew:∀ {γ d w},K γ d w→K γ d w.drew
 cmp:∀ {γ d w},K γ d w→∀ i j,i<n→j<n→Calls P g (fst++(#[.int .i64 (d[i]!:Nat),.int .i64 (d[j]!:Nat)]++cb)) w fun e w' =>
  e=.returned (.int .i64 (cf d[i]! d[j]!))∧∃ γ',K γ' d w'∧w.heap.size≤w'.heap.size∧∀ c,Out γ c→c<w.heap.size→Out γ' c∧w'.heap[c]? = w.heap[c]?
 small:∀ x y,-2≤cf x y∧cf x y≤2
 lt:∀ {γ d w},K γ d w→blk<w.heap.size
 alloc:∀ {γ d w},K γ d w→∀ o,K γ d (w.alloc o)∧Out γ w.heap.size
 store:∀ {γ d w},K γ d w→∀ c,Out γ c→∀ v,K γ d (w.setCell ⟨c,0,none⟩ v)
 out:∀ {γ c},Out γ c→c≠blk
end Go
namespace Go
open Go.Sort Go.RowKit
variable {d:Array Nat} {w w':World}
section
variable {P:Program} {g:FuncId} {fst cb:Array Value} {cf:Nat→Nat→Int} {blk off n:Nat} {Γ:Type} {K:Γ→Array Nat→World→Prop} {Out:Γ→Nat→Prop}
def ltf (cf:Nat→Nat→Int)(x y:Nat): Bool:=decide (cf x y<0)
def SPost {Γ:Type}(K:Γ→Array Nat→World→Prop)(Out:Γ→Nat→Prop)(γ:Γ)(w:World)(d':Array Nat)(w':World): Prop :=
 ∃ γ',K γ' d' w'∧w.heap.size≤w'.heap.size∧∀ c,Out γ c→c<w.heap.size→Out γ' c∧w'.heap[c]? = w.heap[c]?
theorem SPost.refl {γ:Γ}(h:K γ d w): SPost K Out γ w d w:=⟨γ,h,Nat.le_refl _,fun _ ho _=>⟨ho,rfl⟩⟩
theorem SRow.pdrew (S:SRow P g fst cb cf blk off n Γ K Out){γ:Γ}(h:SPost K Out γ w d w'): SPost K Out γ w d w'.drew:=by
 obtain⟨γ',h1,h2,h3⟩:=h
 exact⟨γ',S.drew h1,h2,h3⟩
theorem SPost.size {γ:Γ}{d:Array Nat}{w w':World}(S:SRow P g fst cb cf blk off n Γ K Out)(h:SPost K Out γ w d w'): d.size=n:=by
 obtain⟨γ',h1,_⟩:=h; exact S.size h1
theorem SRow.pcell (S:SRow P g fst cb cf blk off n Γ K Out){γ:Γ}(h:SPost K Out γ w d w')(i:Nat)(hi:i<n):
 w'.cell? ⟨blk,off+i,none⟩=some (.int .i64 (d[i]!:Nat)):=by obtain⟨γ',h1,_⟩:=h; exact S.cell h1 i hi
theorem SRow.pfree (S:SRow P g fst cb cf blk off n Γ K Out){γ:Γ}(h:SPost K Out γ w d w')(i:Nat)(hi:i<n):
 w'.frozen? ⟨blk,off+i,none⟩=false:=by obtain⟨γ',h1,_⟩:=h; exact S.free h1 i hi
theorem SRow.pswap (S:SRow P g fst cb cf blk off n Γ K Out){γ:Γ}(h:SPost K Out γ w d w')(i j:Nat)(hi:i<n)(hj:j<n):
 SPost K Out γ w (swp d i j) (((w'.setCell ⟨blk,off+i,none⟩ (.int .i64 (d[j]!:Nat))).setCell ⟨blk,off+j,none⟩ (.int .i64 (d[i]!:Nat))).drew):=by
 obtain⟨γ',h1,h2,h3⟩:=h
 refine⟨γ',S.drew (S.swap h1 i j hi hj),by simpa using h2,fun c hc hl=>?_⟩
 obtain⟨h4,h5⟩:=h3 c hc hl
 have hne:=S.out h4
 refine⟨h4,?_⟩
 show ((w'.setCell _ _).setCell _ _).heap[c]? = _
 rw[RowKit.Below.heap_setCell _ _ _ _ hne,RowKit.Below.heap_setCell _ _ _ _ hne]
 exact h5
theorem SRow.pcell2 (S:SRow P g fst cb cf blk off n Γ K Out){γ:Γ}(h:SPost K Out γ w d w')(i j:Nat)(hi:i<n)(hj:j<n)(v:Value):
 ∃ u,(w'.setCell ⟨blk,off+i,none⟩ v).cell? ⟨blk,off+j,none⟩=some u:=by
 by_cases e:i=j
 ·subst e; exact⟨v,World.cell?_setCell_same _ _ _ (S.pcell h i hi)⟩
 ·exact⟨_,(World.cell?_setCell_other _ _ _ _ (by intro e'; simp only[Addr.mk.injEq] at e'; omega)).trans (S.pcell h j hj)⟩
theorem SRow.pcmp (S:SRow P g fst cb cf blk off n Γ K Out){γ:Γ}(h:SPost K Out γ w d w')(i j:Nat)(hi:i<n)(hj:j<n):
 Calls P g (fst++(#[.int .i64 (d[i]!:Nat),.int .i64 (d[j]!:Nat)]++cb)) w'.drew fun e w2=>e=.returned (.int .i64 (cf d[i]! d[j]!))∧Hid (SPost K Out γ w d w2):=by
 obtain⟨γ',h1,h2,h3⟩:=h
 refine (S.cmp (S.drew h1) i j hi hj).mono ?_
 rintro e w2 ⟨he,γ2,k1,k2,k3⟩
 refine⟨he,γ2,k1,Nat.le_trans h2 k2,fun c hc hl=>?_⟩
 obtain⟨a1,a2⟩:=h3 c hc hl
 obtain⟨b1,b2⟩:=k3 c a1 (Nat.lt_of_lt_of_le hl h2)
 exact⟨b1,b2.trans a2⟩
theorem SPost.and {γ γ1:Γ}{d2:Array Nat}{w1 w2:World}(h2:w.heap.size≤w1.heap.size)(h3:∀ c,Out γ c→c<w.heap.size→Out γ1 c∧w1.heap[c]? = w.heap[c]?) 
 (k:SPost K Out γ1 w1 d2 w2):SPost K Out γ w d2 w2:=by
 obtain⟨γ',k1,k2,k3⟩:=k
 refine⟨γ',k1,Nat.le_trans h2 k2,fun c hc hl=>?_⟩
 obtain⟨a1,a2⟩:=h3 c hc hl
 obtain⟨b1,b2⟩:=k3 c a1 (Nat.lt_of_lt_of_le hl h2)
 exact⟨b1,b2.trans a2⟩
variable {lt:Nat→Nat→Bool}
theorem insInner_go (a q:Nat)(d:Array Nat)(h1:a<q+1)(h2:lt d[q+1]! d[q]! = true): insInner lt a (q+1) d=insInner lt a q (swp d (q+1) q):=by
 rw[insInner];simp[h2];omega
theorem insInner_stop (a q:Nat)(d:Array Nat)(h2:lt d[q+1]! d[q]! = false): insInner lt a (q+1) d=d:=by
 rw[insInner];simp[h2]
theorem insInner_end (a:Nat)(d:Array Nat): insInner lt a a d=d:=by
 cases a with
 | zero=>rfl
 | succ a=>rw[insInner];simp
theorem insOuter_go (a b i:Nat)(d:Array Nat)(h:i<b): insOuter lt a b i d=insOuter lt a b (i+1) (insInner lt a i d):=by
 rw[insOuter];simp[h]
theorem insOuter_stop (a b i:Nat)(d:Array Nat)(h:¬ i<b): insOuter lt a b i d=d:=by
 rw[insOuter];simp[h]
end
end Go
namespace Sr
open Go Go.Proofs Go.RowKit Go.Sort
section
variable {g:FuncId} {fst cb:Array Value} {cf:Nat→Nat→Int} {blk off n:Nat} {Γ:Type} {K:Γ→Array Nat→World→Prop} {Out:Γ→Nat→Prop}
theorem insertionSort_calls (S:SRow Tryz.prog g fst cb cf blk off n Γ K Out)(eg:∀ args w,(callFunc g args).run Tryz.prog w=.ok (.enter g args) w) 
 (w:World) (cap a b:Nat) (hab:a≤b) (hb:b≤n) (hn:n≤1000000000) (γ:Γ) (d:Array Nat) (hK:K γ d w) :
 Calls Tryz.prog 146 #[.slice (some ⟨blk,off,none⟩) n cap,.int .i64 a,.int .i64 b,.func (.func g) fst cb] w fun e w' =>
  e=.returned (.tuple #[])∧Hid (SPost K Out γ w (insertionSort (ltf cf) d a b) w'):=by
 have H0:Hid (SPost K Out γ w d w):=SPost.refl hK
 clear hK
 go_enter Tryz.func146,Tryz.ntmps146
 go_wp2_with fail
 go_loopg [8] (b - a) (fun g1 vi wr=>∃ (i:Nat) (dk:Array Nat),vi=.int .i64 i∧a<i∧i≤b+1∧b+1 - i≤g1+1∧Hid (SPost K Out γ w dk wr)∧Hid (insOuter (ltf cf) a b i dk=insOuter (ltf cf) a b (a+1) d))
 case atStart=>exact⟨a+1,d,by go_num,by omega,by omega,by omega,H0,rfl⟩
 case round =>
  clear H0
  obtain⟨i,dk,rfl,hai,hib,hg1,H1,E1⟩:=hrel
  by_cases hlt:i<b
  ·have hltz:(i:Int)<(b:Int):=by omega
   go_wp2_with fail
   go_loopg [9] i (fun g2 vj wr2=>∃ (j:Nat) (dj:Array Nat),vj=.int .i64 j∧a≤j∧j≤i∧j≤g2∧Hid (SPost K Out γ w dj wr2)∧Hid (insInner (ltf cf) a j dj=insInner (ltf cf) a i dk))
   case atStart=>exact⟨i,dk,rfl,by omega,jR _,jR _,H1,rfl⟩
   case round =>
    clear H1
    obtain⟨j,dj,rfl,haj,hji,hg2,H2,E2⟩:=hrel
    by_cases hja:a<j
    ·obtain⟨q,rfl⟩:∃ q,j=q+1:=⟨j - 1,by omega⟩
     have e1:((q:Int)+1:Int).toNat=q+1:=by omega
     have p1:(0:Int)≤(q:Int)+1:=by omega
     have b1:((q:Int)+1:Int)<(n:Int):=by omega
     have w1:IntKind.i64.wrap ((q:Int)+1:Int)=(q:Int)+1:=by rw[IntKind.wrap_i64];omega
     have e2:((q:Int):Int).toNat=q:=by omega
     have p2:(0:Int)≤(q:Int):=by omega
     have b2:((q:Int):Int)<(n:Int):=by omega
     have w2:IntKind.i64.wrap ((q:Int):Int)=(q:Int):=by rw[IntKind.wrap_i64];omega
     have c1:=S.pcell H2.out (q+1) (by omega)
     have c2:=S.pcell H2.out q (by omega)
     have hd:decide ((a:Int)<(q:Int)+1)=true:=by simp; omega
     have HC:=S.pcmp H2.out (q+1) q (by omega) (by omega)
     clear H2
     by_cases hc:cf dj[q+1]! dj[q]!<0
     ·have hlv:ltf cf dj[q+1]! dj[q]! = true:=decide_eq_true hc
      have E3:Hid (insInner (ltf cf) a q (swp dj (q+1) q)=insInner (ltf cf) a i dk):=by show _=_; rw[← E2.out,insInner_go a q dj hja hlv]
      clear E2 hlv
      go_wp2_with fail
      go_still_tail 14,(by kernel_rfl)
      change wpList _ _ _ _ _ wr.drew
      go_wp2_with ((with_reducible refine HC.mono ?_);rintro e w' ⟨rfl,H3⟩)
      clear HC c1 c2
      have c1:=S.pcell H3.out (q+1) (by omega)
      have c2:=S.pcell H3.out q (by omega)
      have f1:=S.pfree H3.out (q+1) (by omega)
      have f2:=S.pfree H3.out q (by omega)
      have H4:Hid _:=S.pswap H3.out (q+1) q (by omega) (by omega)
      clear H3
      go_region
      clear c1 c2 f1 f2
      go_wp2_with fail
      go_roundg q
      case measure=>omega
      case rel=>exact⟨q,swp dj (q+1) q,by go_num,by omega,by omega,jR _,H4,E3⟩
     ·have hlv:ltf cf dj[q+1]! dj[q]! = false:=decide_eq_false hc
      have E3:Hid (insOuter (ltf cf) a b (i+1) dj=insOuter (ltf cf) a b (a+1) d):=by
       show _=_; rw[← E1.out,insOuter_go _ _ _ _ hlt,← E2.out,insInner_stop _ _ _ hlv]
      clear E2 hlv
      go_wp2_with fail
      go_still_tail 14,(by kernel_rfl)
      change wpList _ _ _ _ _ wr.drew
      go_wp2_with ((with_reducible refine HC.mono ?_);rintro e w' ⟨rfl,H3⟩)
      clear HC c1 c2
      go_roundg (b - (i+1))
      case measure=>omega
      case rel=>exact⟨i+1,dj,by go_num,by omega,by omega,by omega,H3,E3⟩
    ·obtain rfl:j=a:=by omega
     have E3:Hid (insOuter (ltf cf) j b (i+1) dj=insOuter (ltf cf) j b (j+1) d):=by
      show _=_; rw[← E1.out,insOuter_go _ _ _ _ hlt,← E2.out,insInner_end]
     have H3:Hid _:=S.pdrew H2.out
     clear E2 H2
     have hd:decide ((j:Int)<(j:Int))=false:=by simp
     go_wp2_with fail
     go_region
     go_wp2_with fail
     go_roundg (b - (i+1))
     case measure=>omega
     case rel=>exact⟨i+1,dj,by go_num,by omega,by omega,by omega,H3,E3⟩
  ·have hltz:¬ (i:Int)<(b:Int):=by omega
   go_wp2_with fail
   go_end0
   exact⟨rfl,by unfold insertionSort; rw[← E1.out,insOuter_stop _ _ _ _ hlt];exact H1⟩
theorem reverseLoop_go (i j:Nat)(d:Array Nat)(h:i<j): reverseLoop i j d=reverseLoop (i+1) (j - 1) (swp d i j):=by rw[reverseLoop];simp[h]
theorem reverseLoop_stop (i j:Nat)(d:Array Nat)(h:¬ i<j): reverseLoop i j d=d:=by rw[reverseLoop];simp[h]
theorem reverseRange_calls (S:SRow Tryz.prog g fst cb cf blk off n Γ K Out) 
 (w:World) (cap a b:Nat) (hab:a<b) (hb:b≤n) (hn:n≤1000000000) (γ:Γ) (d:Array Nat) (hK:K γ d w) (f:Value) :
 Calls Tryz.prog 150 #[.slice (some ⟨blk,off,none⟩) n cap,.int .i64 a,.int .i64 b,f] w fun e w' =>
  e=.returned (.tuple #[])∧Hid (SPost K Out γ w (reverseRange d a b) w'):=by
 have H0:Hid (SPost K Out γ w d w):=SPost.refl hK
 clear hK
 obtain⟨b,rfl⟩:∃ q,b=q+1:=⟨b - 1,by omega⟩
 go_enter Tryz.func150,Tryz.ntmps150
 go_wp2_with fail
 go_loopg [8,9] (b - a) (fun g1 vi vj wr=>∃ (i j:Nat) (dk:Array Nat),vi=.int .i64 i∧vj=.int .i64 j∧a≤i∧j≤b∧i≤j+1∧j - i≤g1∧Hid (SPost K Out γ w dk wr)∧Hid (reverseLoop i j dk=reverseLoop a b d))
 case atStart=>exact⟨a,b,d,by go_num,by go_num,by omega,by omega,by omega,by omega,H0,rfl⟩
 case round =>
  clear H0
  obtain⟨i,j,dk,rfl,rfl,hai,hjb,hij,hg1,H1,E1⟩:=hrel
  by_cases hlt:i<j
  ·have hltz:(i:Int)<(j:Int):=by omega
   have E2:Hid (reverseLoop (i+1) (j - 1) (swp dk i j)=reverseLoop a b d):=by show _=_; rw[← E1.out,reverseLoop_go i j dk hlt]
   clear E1
   have e1:((i:Int):Int).toNat=i:=by omega
   have p1:(0:Int)≤(i:Int):=by omega
   have b1:((i:Int):Int)<(n:Int):=by omega
   have w1:IntKind.i64.wrap ((i:Int):Int)=(i:Int):=by rw[IntKind.wrap_i64];omega
   have e2:((j:Int):Int).toNat=j:=by omega
   have p2:(0:Int)≤(j:Int):=by omega
   have b2:((j:Int):Int)<(n:Int):=by omega
   have w2:IntKind.i64.wrap ((j:Int):Int)=(j:Int):=by rw[IntKind.wrap_i64];omega
   have c1:=S.pcell H1.out i (by omega)
   have c2:=S.pcell H1.out j (by omega)
   have f1:=S.pfree H1.out i (by omega)
   have f2:=S.pfree H1.out j (by omega)
   obtain⟨u,c3⟩:=S.pcell2 H1.out i j (by omega) (by omega) (.int .i64 (dk[j]!:Nat))
   have H2:Hid _:=S.pswap H1.out i j (by omega) (by omega)
   clear H1
   go_wp2_with fail
   go_region
   clear c1 c2 f1 f2 c3
   go_wp2_with fail
   go_roundg (j - 1 - (i+1))
   case measure=>omega
   case rel=>exact⟨i+1,j - 1,swp dk i j,by go_num,by congr 1; omega,by omega,by omega,by omega,by omega,H2,E2⟩
  ·have hltz:¬ (i:Int)<(j:Int):=by omega
   go_wp2_with fail
   go_end0
   exact⟨rfl,by unfold reverseRange; rw[show b+1 - 1=b from rfl,← E1.out,reverseLoop_stop _ _ _ hlt];exact H1⟩
end
section
variable {g:FuncId} {fst cb:Array Value} {cf:Nat→Nat→Int} {blk off n:Nat} {Γ:Type} {K:Γ→Array Nat→World→Prop} {Out:Γ→Nat→Prop}
def CPost {Γ:Type}(K:Γ→Array Nat→World→Prop)(Out:Γ→Nat→Prop)(γ:Γ)(w:World)(d:Array Nat)(c s:Nat)(w':World): Prop :=
 ∃ γ' s',s'≤s∧K γ' d w'∧w.heap.size≤w'.heap.size∧(∀ b,Out γ b→b<w.heap.size→Out γ' b∧(b≠c→w'.heap[b]? = w.heap[b]?)) ∧
  Out γ' c∧c<w'.heap.size∧w'.cell? ⟨c,0,none⟩=some (.int .i64 (s':Nat))∧w'.frozen? ⟨c,0,none⟩=false
variable {w w':World} {d:Array Nat} {c s:Nat}
theorem CPost.mono {γ:Γ}{t:Nat}(h:CPost K Out γ w d c s w')(hst:s≤t): CPost K Out γ w d c t w':=by
 obtain⟨γ',s',a,r⟩:=h; exact⟨γ',s',by omega,r⟩
theorem CPost.step {γ γ':Γ}{w1:World}{t:Nat}(h2:w.heap.size≤w1.heap.size)(h3:∀ b,Out γ b→b<w.heap.size→Out γ' b∧(b≠c→w1.heap[b]? = w.heap[b]?)) 
 (k:CPost K Out γ' w1 d c t w'):CPost K Out γ w d c t w':=by
 obtain⟨γ2,s2,k1,k2,k3,k4,k5⟩:=k
 refine⟨γ2,s2,k1,k2,Nat.le_trans h2 k3,fun b hb hl=>?_,k5⟩
 obtain⟨a1,a2⟩:=h3 b hb hl
 obtain⟨b1,b2⟩:=k4 b a1 (Nat.lt_of_lt_of_le hl h2)
 exact⟨b1,fun hne=>(b2 hne).trans (a2 hne)⟩
theorem order2_post (S:SRow Tryz.prog g fst cb cf blk off n Γ K Out){γ:Γ}{w1:World}(h:SPost K Out γ w d w1)(hc:Out γ c)(hlt:c<w.heap.size) 
 (hs:w.cell? ⟨c,0,none⟩=some (.int .i64 s)) (hf:w.frozen? ⟨c,0,none⟩=false) :
 CPost K Out γ w d c s w1∧CPost K Out γ w d c (s+1) (w1.setCell ⟨c,0,none⟩ (.int .i64 ((s:Int)+1)))∧w1.cell? ⟨c,0,none⟩=some (.int .i64 s)∧w1.frozen? ⟨c,0,none⟩=false:=by
 obtain⟨γ',h1,h2,h3⟩:=h
 obtain⟨a1,a2⟩:=h3 c hc hlt
 have c1:w1.cell? ⟨c,0,none⟩=some (.int .i64 s):=(World.cell?_of_block (w:=w) (a:=⟨c,0,none⟩) a2).trans hs
 have f1:w1.frozen? ⟨c,0,none⟩=false:=(World.frozen?_of_block (w:=w) (a:=⟨c,0,none⟩) a2).trans hf
 refine⟨⟨γ',s,jR _,h1,h2,fun b hb hl=>⟨(h3 b hb hl).1,fun _=>(h3 b hb hl).2⟩,a1,by omega,c1,f1⟩,⟨γ',s+1,jR _,S.store h1 c a1 _,by simpa using h2,fun b hb hl=>⟨(h3 b hb hl).1,fun hne=>?_⟩,a1,by simp; omega,?_,?_⟩,c1,f1⟩
 ·rw[jS _ _ _ _ hne];exact (h3 b hb hl).2
 ·rw[World.cell?_setCell_same _ _ _ c1];rfl
 ·rw[World.frozen?_setCell];exact f1
theorem xA (S:SRow Tryz.prog g fst cb cf blk off n Γ K Out)(eg:∀ args w,(callFunc g args).run Tryz.prog w=.ok (.enter g args) w) 
 (w:World) (cap a b c s L U:Nat) (ha:a<U) (hb:b<U) (hLa:L≤a) (hLb:L≤b) (hU:U≤n) (hn:n≤1000000000) (hs:s≤1000) (γ:Γ) (d:Array Nat) (hK:K γ d w) (hc:Out γ c) (hlt:c<w.heap.size)
 (hcs:w.cell? ⟨c,0,none⟩=some (.int .i64 s)) (hf:w.frozen? ⟨c,0,none⟩=false) :
 Calls Tryz.prog 171 #[.slice (some ⟨blk,off,none⟩) n cap,.int .i64 a,.int .i64 b,.pointer (some ⟨c,0,none⟩),.func (.func g) fst cb] w fun e w' =>
  ∃ x y:Nat,x<U∧y<U∧L≤x∧L≤y∧e=.returned (.tuple #[.int .i64 x,.int .i64 y])∧Hid (CPost K Out γ w d c (s+1) w'):=by
 have H0:SPost K Out γ w d w:=SPost.refl hK
 have HP:Hid (∀ w1,SPost K Out γ w d w1→_):=fun w1 h=>order2_post S h hc hlt hcs hf
 have c1:=S.pcell H0 b (by omega)
 have c2:=S.pcell H0 a (by omega)
 have HC:=S.pcmp H0 b a (by omega) (by omega)
 clear hcs hf hK H0
 have e1:((b:Int):Int).toNat=b:=by omega
 have p1:(0:Int)≤(b:Int):=by omega
 have b1:((b:Int):Int)<(n:Int):=by omega
 have w1:IntKind.i64.wrap ((b:Int):Int)=(b:Int):=by rw[IntKind.wrap_i64];omega
 have e2:((a:Int):Int).toNat=a:=by omega
 have p2:(0:Int)≤(a:Int):=by omega
 have b2:((a:Int):Int)<(n:Int):=by omega
 have w2:IntKind.i64.wrap ((a:Int):Int)=(a:Int):=by rw[IntKind.wrap_i64];omega
 have w3:IntKind.i64.wrap ((s:Int)+1:Int)=(s:Int)+1:=by rw[IntKind.wrap_i64];omega
 go_enter Tryz.func171,Tryz.ntmps171
 go_wp2_with fail
 go_still_tail 9,(by kernel_rfl)
 change wpList _ _ _ _ _ w.drew
 go_wp2_with fail
 refine HC.mono ?_
 rintro e w' ⟨rfl,H3⟩
 clear HC c1 c2
 obtain⟨q1,q2,c3,f3⟩:=HP.out w' H3.out
 have Q1:Hid _:=q1
 have Q2:Hid _:=q2
 clear q1 q2 HP H3
 go_wp2_with fail
 ·go_ret2
  exact⟨b,a,hb,ha,hLb,hLa,rfl,Q2⟩
 ·go_ret2
  exact⟨a,b,ha,hb,hLa,hLb,rfl,CPost.mono Q1.out (by omega)⟩
theorem qo {γ:Γ}(h:CPost K Out γ w d c s w'): ∃ (γ':Γ) (s':Nat),s'≤s∧K γ' d w'∧Out γ' c∧c<w'.heap.size∧w'.cell? ⟨c,0,none⟩=some (.int .i64 (s':Nat))∧w'.frozen? ⟨c,0,none⟩=false ∧
 ∀ (w2:World) (t:Nat),CPost K Out γ' w' d c t w2→CPost K Out γ w d c t w2:=by
 obtain⟨γ',s',h0,h1,h2,h3,h4,h5,h6,h7⟩:=h
 exact⟨γ',s',h0,h1,h4,h5,h6,h7,fun w2 t k=>CPost.step h2 h3 k⟩
theorem xB (S:SRow Tryz.prog g fst cb cf blk off n Γ K Out)(eg:∀ args w,(callFunc g args).run Tryz.prog w=.ok (.enter g args) w) 
 (w:World) (cap a b m c s L U:Nat) (ha:a<U) (hb:b<U) (hm:m<U) (hLa:L≤a) (hLb:L≤b) (hLm:L≤m) (hU:U≤n) (hn:n≤1000000000) (hs:s≤990) (γ:Γ) (d:Array Nat) (hK:K γ d w) (hc:Out γ c) (hlt:c<w.heap.size)
 (hcs:w.cell? ⟨c,0,none⟩=some (.int .i64 s)) (hf:w.frozen? ⟨c,0,none⟩=false) :
 Calls Tryz.prog 165 #[.slice (some ⟨blk,off,none⟩) n cap,.int .i64 a,.int .i64 b,.int .i64 m,.pointer (some ⟨c,0,none⟩),.func (.func g) fst cb] w fun e w' =>
  ∃ x:Nat,x<U∧L≤x∧e=.returned (.int .i64 x)∧Hid (CPost K Out γ w d c (s+3) w'):=by
 have O1:=xA S eg w cap a b c s L U ha hb hLa hLb hU hn (by omega) γ d hK hc hlt hcs hf
 clear hcs hf hK
 go_enter Tryz.func165,Tryz.ntmps165
 go_wp2_with fail
 refine O1.mono ?_
 rintro e w1 ⟨x1,y1,hx1,hy1,hX1,hY1,rfl,H1⟩
 clear O1
 obtain⟨γ1,s1,hs1,hK1,hO1,hl1,hc1,hf1,hn1⟩:=qo H1.out
 have O2:=xA S eg w1 cap y1 m c s1 L U hy1 hm hY1 hLm hU hn (by omega) γ1 d hK1 hO1 hl1 hc1 hf1
 have N1:Hid _:=hn1
 clear hn1 hc1 hf1 hK1 H1
 go_wp2_with fail
 refine O2.mono ?_
 rintro e w2 ⟨x2,y2,hx2,hy2,hX2,hY2,rfl,H2⟩
 clear O2
 obtain⟨γ2,s2,hs2,hK2,hO2,hl2,hc2,hf2,hn2⟩:=qo H2.out
 have O3:=xA S eg w2 cap x1 x2 c s2 L U hx1 hx2 hX1 hX2 hU hn (by omega) γ2 d hK2 hO2 hl2 hc2 hf2
 have N2:Hid _:=hn2
 clear hn2 hc2 hf2 hK2 H2
 go_wp2_with fail
 refine O3.mono ?_
 rintro e w3 ⟨x3,y3,hx3,hy3,hX3,hY3,rfl,H3⟩
 clear O3
 go_wp2_with fail
 go_ret
 exact⟨y3,hy3,hY3,rfl,CPost.mono (N1.out _ _ (N2.out _ _ H3.out)) (by omega)⟩
theorem zF (S:SRow Tryz.prog g fst cb cf blk off n Γ K Out)(eg:∀ args w,(callFunc g args).run Tryz.prog w=.ok (.enter g args) w) 
 (w:World) (cap a c s L U:Nat) (ha:a+1<U) (hLa:L+1≤a) (hU:U≤n) (hn:n≤1000000000) (hs:s≤990) (γ:Γ) (d:Array Nat) (hK:K γ d w) (hc:Out γ c) (hlt:c<w.heap.size)
 (hcs:w.cell? ⟨c,0,none⟩=some (.int .i64 s)) (hf:w.frozen? ⟨c,0,none⟩=false) :
 Calls Tryz.prog 164 #[.slice (some ⟨blk,off,none⟩) n cap,.int .i64 a,.pointer (some ⟨c,0,none⟩),.func (.func g) fst cb] w fun e w' =>
  ∃ x:Nat,x<U∧L≤x∧e=.returned (.int .i64 x)∧Hid (CPost K Out γ w d c (s+3) w'):=by
 obtain⟨q,rfl⟩:∃ q,a=q+1:=⟨a - 1,by omega⟩
 have O1:=xB S eg w cap q (q+1) (q+1+1) c s L U (by omega) (by omega) (by omega) (by omega) (by omega) (by omega) hU hn (by omega) γ d hK hc hlt hcs hf
 clear hcs hf hK
 go_enter Tryz.func164,Tryz.ntmps164
 go_wp2_with fail
 refine O1.mono ?_
 rintro e w1 ⟨x1,hx1,hX1,rfl,H1⟩
 clear O1
 go_wp2_with fail
 go_ret
 exact⟨x1,hx1,hX1,rfl,H1⟩
theorem sr_cnt (S:SRow Tryz.prog g fst cb cf blk off n Γ K Out){γ:Γ}(hK:K γ d w)(T:TypeId): CPost K Out γ w d w.heap.size 0 (w.alloc (.cells #[.int .i64 0] T)):=by
 obtain⟨h1,h2⟩:=S.alloc hK (.cells #[.int .i64 0] T)
 exact⟨γ,0,jR _,h1,by simp,fun b hb hl=>⟨hb,fun _=>RowKit.Below.heap_alloc _ _ _ hl⟩,h2,by simp,by simp,by simp⟩
theorem cpost_out {γ:Γ}(h:CPost K Out γ w d w.heap.size s w'): SPost K Out γ w d w':=by
 obtain⟨γ',s',_,h1,h2,h3,_⟩:=h
 exact⟨γ',h1,h2,fun c hc hl=>⟨(h3 c hc hl).1,(h3 c hc hl).2 (by omega)⟩⟩
theorem choosePivot_calls (S:SRow Tryz.prog g fst cb cf blk off n Γ K Out)(eg:∀ args w,(callFunc g args).run Tryz.prog w=.ok (.enter g args) w) 
 (w:World) (cap a b:Nat) (hab:a+12<b) (hb:b≤n) (hn:n≤1000000000) (γ:Γ) (d:Array Nat) (hK:K γ d w) :
 Calls Tryz.prog 149 #[.slice (some ⟨blk,off,none⟩) n cap,.int .i64 a,.int .i64 b,.func (.func g) fst cb] w fun e w' =>
  ∃ (x:Nat) (h:Int),a≤x∧x<b∧0≤h∧h≤2∧e=.returned (.tuple #[.int .i64 x,.int .i64 h])∧Hid (SPost K Out γ w d w'):=by
 obtain⟨l,hl1,hl2⟩:∃ l,b≤a+l∧a+l≤b:=⟨b - a,by omega,by omega⟩
 obtain⟨i0,hi1,hi2⟩:∃ i0,a+l / 4≤i0∧i0≤a+l / 4:=⟨_,jR _,jR _⟩
 obtain⟨j0,hj1,hj2⟩:∃ j0,a+l / 4*2≤j0∧j0≤a+l / 4*2:=⟨_,jR _,jR _⟩
 obtain⟨k0,hk1,hk2⟩:∃ k0,a+l / 4*3≤k0∧k0≤a+l / 4*3:=⟨_,jR _,jR _⟩
 have H0:Hid (CPost K Out γ w d w.heap.size 0 (w.alloc (.cells #[.int .i64 0] 3))):=sr_cnt S hK 3
 clear hK
 by_cases h50:50≤l
 ·have h50z:50≤(b:Int) - a:=by omega
  go_enter Tryz.func149,Tryz.ntmps149
  go_wp2_with fail
  rw[show ((a:Int)+(↑b - ↑a) / 4)=(i0:Int) from by omega,show ((a:Int)+(↑b - ↑a) / 4*2)=(j0:Int) from by omega,show ((a:Int)+(↑b - ↑a) / 4*3)=(k0:Int) from by omega]
  obtain⟨γ1,s1,hs1,hK1,hO1,hl1,hc1,hf1,hn1⟩:=qo H0.out
  have O2:=zF S eg _ cap i0 w.heap.size s1 a b (by omega) (by omega) hb hn (by omega) γ1 d hK1 hO1 hl1 hc1 hf1
  have N1:Hid _:=hn1
  clear hn1 hK1 hc1 hf1 H0
  refine O2.mono ?_
  rintro e w2 ⟨x2,hx2,hX2,rfl,H2⟩
  clear O2
  go_wp2_with fail
  obtain⟨γ2,s2,hs2,hK2,hO2,hl2,hc2,hf2,hn2⟩:=qo H2.out
  have O3:=zF S eg _ cap j0 w.heap.size s2 a b (by omega) (by omega) hb hn (by omega) γ2 d hK2 hO2 hl2 hc2 hf2
  have N2:Hid _:=hn2
  clear hn2 hK2 hc2 hf2 H2
  refine O3.mono ?_
  rintro e w3 ⟨x3,hx3,hX3,rfl,H3⟩
  clear O3
  go_wp2_with fail
  obtain⟨γ3,s3,hs3,hK3,hO3,hl3,hc3,hf3,hn3⟩:=qo H3.out
  have O4:=zF S eg _ cap k0 w.heap.size s3 a b (by omega) (by omega) hb hn (by omega) γ3 d hK3 hO3 hl3 hc3 hf3
  have N3:Hid _:=hn3
  clear hn3 hK3 hc3 hf3 H3
  refine O4.mono ?_
  rintro e w4 ⟨x4,hx4,hX4,rfl,H4⟩
  clear O4
  go_wp2_with fail
  obtain⟨γ4,s4,hs4,hK4,hO4,hl4,hc4,hf4,hn4⟩:=qo H4.out
  have O5:=xB S eg _ cap x2 x3 x4 w.heap.size s4 a b hx2 hx3 hx4 hX2 hX3 hX4 hb hn (by omega) γ4 d hK4 hO4 hl4 hc4 hf4
  have N4:Hid _:=hn4
  clear hn4 hK4 hc4 hf4 H4
  refine O5.mono ?_
  rintro e w5 ⟨x5,hx5,hX5,rfl,H5⟩
  clear O5
  have H6:Hid (SPost K Out γ w d w5):=cpost_out (N1.out _ _ (N2.out _ _ (N3.out _ _ (N4.out _ _ H5.out))))
  obtain⟨γ5,s5,hs5,hK5,hO5,hl5,hc5,hf5,hn5⟩:=qo H5.out
  clear hn5 hK5 hf5 H5 N1 N2 N3 N4
  go_wp2_with fail
  all_goals (refine bodyPost_ret (results_tmp2 rfl _ _ _) rfl ?_)
  ·exact⟨x5,1,by omega,by omega,by omega,by omega,rfl,H6⟩
  ·exact⟨x5,2,by omega,by omega,by omega,by omega,rfl,H6⟩
  ·exact⟨x5,0,by omega,by omega,by omega,by omega,rfl,H6⟩
 ·have h50z:(b:Int) - a<50:=by omega
  go_enter Tryz.func149,Tryz.ntmps149
  go_wp2_with fail
  rw[show ((a:Int)+(↑b - ↑a) / 4)=(i0:Int) from by omega,show ((a:Int)+(↑b - ↑a) / 4*2)=(j0:Int) from by omega,show ((a:Int)+(↑b - ↑a) / 4*3)=(k0:Int) from by omega]
  obtain⟨γ4,s4,hs4,hK4,hO4,hl4,hc4,hf4,hn4⟩:=qo H0.out
  have O5:=xB S eg _ cap i0 j0 k0 w.heap.size s4 a b (by omega) (by omega) (by omega) (by omega) (by omega) (by omega) hb hn (by omega) γ4 d hK4 hO4 hl4 hc4 hf4
  have N4:Hid _:=hn4
  clear hn4 hK4 hc4 hf4 H0
  refine O5.mono ?_
  rintro e w5 ⟨x5,hx5,hX5,rfl,H5⟩
  clear O5
  have H6:Hid (SPost K Out γ w d w5):=cpost_out (N4.out _ _ H5.out)
  obtain⟨γ5,s5,hs5,hK5,hO5,hl5,hc5,hf5,hn5⟩:=qo H5.out
  clear hn5 hK5 hf5 H5 N4
  go_wp2_with fail
  all_goals (refine bodyPost_ret (results_tmp2 rfl _ _ _) rfl ?_)
  ·exact⟨x5,1,by omega,by omega,by omega,by omega,rfl,H6⟩
  ·exact⟨x5,0,by omega,by omega,by omega,by omega,rfl,H6⟩
end
end Sr
