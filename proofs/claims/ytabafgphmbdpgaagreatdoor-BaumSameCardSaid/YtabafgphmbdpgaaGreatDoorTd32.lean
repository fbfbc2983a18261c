/- Texts of this claim, joined: RRed, RTr, RLike, InnP. -/
import Derived.Test.YtabafgphmbdpgaaGreatDoorTd1
import Derived.Test.YtabafgphmbdpgaaGreatDoorTd29
import Derived.Test.YtabafgphmbdpgaaGreatDoorTd30
import Derived.Test.YtabafgphmbdpgaaGreatDoorTd31
set_option maxHeartbeats 8000000
set_option maxRecDepth 100000
namespace Sr
open Go Go.Proofs Go.RowKit Go.Maps Go.WideMaps
section
section
variable {ops:Array Oper} {o:Oper} {a:Act} {K:Act→World→Prop} {Q:Exit→Act→World→Prop} {E:Prop} {W:World}
theorem step_S1 (hgd:o.guard=none)(s x:Operand)(ho:o.op=.call { callee:=.builtin .append,args:=#[s,x],argTypes:=#[23,23] }) 
 (v:Value) (n:Nat) (l:List Value) (hs:a.eval s=v) (hown:W.ownsRow 0 42 2 v n l) (B:Nat) (i:Int) (t:Value) (h1:t.oneCell'=true) (hx:a.eval x=.slice (some ⟨B,0,none⟩) 1 1)
 (hB:W.heap[B]? = some (.cells #[.int .i64 i,t] 42 (0,0))) (hb:n+1≤1099511627776) (H:Nat) (hH:W.heap.size=H)
 (h:∀ g cap w',w'.ownsRow 0 42 2 (.slice (some ⟨g,0,none⟩) (n+1) cap) (n+1) (l++[.int .i64 i,t])→W.grownBy w' v.ownBlock→(v.ownBlock=some g∨g=H)→g<w'.heap.size→K (a.put o.dst (.slice (some ⟨g,0,none⟩) (n+1) cap)) w') :
 if Region.wanted o (yielded ops a.tmps)=true then Oper.wp Tryz.prog o a W K Q else E:=by
 obtain⟨ii,hi,hz0,hz1,hz2⟩:=info_parts info42
 exact step_append_lies W hgd s x 23 ho 0 42 ii _ 2 32 un23 hi hz0 hz1 hz2 rfl (by decide) v n _ hs hown ⟨B,0,none⟩ 1 1 [.int .i64 i,t] hx rfl (fun j u hu=>World.news_of_block hB j u hu) (by simp[h1];rfl) (by omega) (by simp only[maxLen];omega) (by omega) (Nat.zero_le _) H hH h
end
variable {W':World} {i:Nat}
theorem RK.kept2 {b:Nat}{W W2:World}{c p:Nat}{fv fv':Value}{fl fl':List Value}{vs vs':List Int}{full':Bool}(T0:TypeId)(hn:T0≠75∧T0≠105∧T0≠137∧T0≠139)(h:RK b W W' c p fv fv' fl fl' vs vs' full')(hb:Below W.heap.size W' W2)(hT:∀ (q:Nat) (cs:Array Value) (T:TypeId),W'.heap[q]? = some (.cells cs T (0,0))→T≠T0→W2.heap[q]? = W'.heap[q]?): RK b W W2 c p fv fv' fl fl' vs vs' full':=by
 refine⟨⟨?_,(hT _ _ _ h.rc.obj (Ne.symm hn.1)).trans h.rc.obj⟩,h.ext,⟨hb.os.trans h.fr.os,hb.tape.trans h.fr.tape,hb.output.trans h.fr.output,Nat.le_trans h.fr.size hb.size,fun q hq hn=>(hb.block q hq).trans (h.fr.block q hq hn)⟩,h.fvb⟩
 obtain⟨C,h1,h2⟩:=h.rc.rw
 refine⟨C,h1,h2.kept fun q hq=>?_⟩
 obtain⟨cs,T,hc,ht⟩:=h2.btype hq
 exact hT q cs T hc (by rcases ht with rfl | rfl | rfl; exact Ne.symm hn.2.1; exact Ne.symm hn.2.2.1; exact Ne.symm hn.2.2.2)
structure RrS (W w:World)(B c D6 D7 b p:Nat)(fv0 fv:Value)(fl0 fl:List Value)(vs0 vs:List Int)(full:Bool)(s:ByteArray)(gv:Value)(l:List N3)(G:List E3)(stv:Value)(acc:List (Nat×Int)): Prop where
 rk:RK b W w c p fv0 fv fl0 fl vs0 vs full
 b0:w.heap[B]? = some (.cells #[.slice none 0 0,.int .i64 0,.int .i64 0,.int .i64 0,.int .i64 0,.int .i64 0] 37 (0,0))
 b6:w.heap[D6]? = some (.cells #[.string s,gv] 78 (0,0))
 b7:w.heap[D7]? = some (.cells #[stv,.int .i64 0,.int .i64 0,.int .i64 0,.int .i64 0,.int .i64 0] 37 (0,0))
 pr:PR 0 w vs gv l G
 st:StRow W.heap.size w stv acc
 hB:W.heap.size≤B
 h6:W.heap.size≤D6
 h7:W.heap.size≤D7
 hB7:B≠D7
section
variable {W w w':World} {B c D6 D7 b b' p:Nat} {fv0 fv fv':Value} {fl0 fl fl':List Value} {vs0 vs vs':List Int} {full full':Bool} {s:ByteArray} {gv:Value} {l:List N3} {G:List E3} {stv:Value} {acc:List (Nat×Int)}
theorem RrS.call (h:RrS W w B c D6 D7 b p fv0 fv fl0 fl vs0 vs full s gv l G stv acc)(k:RK b' w w' c p fv fv' fl fl' vs vs' full'): RrS W w' B c D6 D7 b' p fv0 fv' fl0 fl' vs0 vs' full' s gv l G stv acc:={
 rk:=h.rk.trans k
 b0:=jd h.rk.rc k h.b0 (by decide) (by decide) (by decide)
 b6:=jd h.rk.rc k h.b6 (by decide) (by decide) (by decide)
 b7:=jd h.rk.rc k h.b7 (by decide) (by decide) (by decide)
 pr:=h.pr.rk h.rk.rc k
 st:=h.st.kept fun q cs T hq _ ht=>by
  rw[hq];exact jd h.rk.rc k hq (by rcases ht with rfl | rfl <;>decide) (by rcases ht with rfl | rfl <;>decide) (by rcases ht with rfl | rfl <;>decide)
 hB:=h.hB,h6:=h.h6,h7:=h.h7,hB7:=h.hB7 }
theorem RrS.below (h:RrS W w B c D6 D7 b p fv0 fv fl0 fl vs0 vs full s gv l G stv acc)(k:Below w.heap.size w w'): RrS W w' B c D6 D7 b p fv0 fv fl0 fl vs0 vs full s gv l G stv acc:={
 rk:=h.rk.post k,b0:=Below.here k h.b0,b6:=Below.here k h.b6,b7:=Below.here k h.b7,pr:=h.pr.below k,st:=h.st.below k,hB:=h.hB,h6:=h.h6,h7:=h.h7,hB7:=h.hB7 }
theorem RrS.mono (h:RrS W w B c D6 D7 b p fv0 fv fl0 fl vs0 vs full s gv l G stv acc)(hb:b≤b'): RrS W w B c D6 D7 b' p fv0 fv fl0 fl vs0 vs full s gv l G stv acc:={
 rk:=h.rk.mono hb,b0:=h.b0,b6:=h.b6,b7:=h.b7,pr:=h.pr,st:=h.st,hB:=h.hB,h6:=h.h6,h7:=h.h7,hB7:=h.hB7 }
theorem RrS.set6 (h:RrS W w B c D6 D7 b p fv0 fv fl0 fl vs0 vs full s gv l G stv acc){s':ByteArray}{gv':Value}{l':List N3}{G':List E3}(hp:PR 0 w vs gv' l' G'):
 RrS W ((w.setCell ⟨D6,0,none⟩ (.string s')).setCell ⟨D6,1,none⟩ gv') B c D6 D7 b p fv0 fv fl0 fl vs0 vs full s' gv' l' G' stv acc:=by
 obtain⟨f1,e1⟩:=h.rk.setT h.b6 (by decide) h.h6 0 (.string s')
 obtain⟨f2,e2⟩:=f1.setT e1 (by decide) h.h6 1 gv'
 have ke:∀ q:Nat,q≠D6→((w.setCell ⟨D6,0,none⟩ (.string s')).setCell ⟨D6,1,none⟩ gv').heap[q]? = w.heap[q]?:=fun q hq=>(jS _ _ _ _ hq).trans (jS _ _ _ _ hq)
 exact {
  rk:=f2
  b0:=(ke B (jI h.b0 h.b6 (by decide))).trans h.b0
  b6:=e2
  b7:=(ke D7 (jI h.b7 h.b6 (by decide))).trans h.b7
  pr:=⟨qP hp.row fun q hq=>by
   obtain⟨cs,hc⟩:=jl hp.row hq
   exact ke q (jI hc h.b6 (by decide)),hp.at_,hp.hg⟩
  st:=h.st.kept fun q cs T hq _ ht=>ke q (jI hq h.b6 (by rcases ht with rfl | rfl <;>decide))
  hB:=h.hB,h6:=h.h6,h7:=h.h7,hB7:=h.hB7 }
theorem RrS.mid (h:RrS W w B c D6 D7 b p fv0 fv fl0 fl vs0 vs full s gv l G stv acc)(Gr:w.grownBy w' stv.ownBlock): w'.heap[D7]? = some (.cells #[stv,.int .i64 0,.int .i64 0,.int .i64 0,.int .i64 0,.int .i64 0] 37 (0,0)):=by
 obtain⟨us,h1,h2,h3⟩:=h.st.row
 refine (Gr.block D7 (jA h.b7).1 fun e=>?_).trans h.b7
 obtain⟨cs,hc⟩:=jl h2 e.symm
 exact jI h.b7 hc (by decide) rfl
theorem RrS.app (h:RrS W w B c D6 D7 b p fv0 fv fl0 fl vs0 vs full s gv l G stv acc){stv':Value}{acc':List (Nat×Int)}(Gr:w.grownBy w' stv.ownBlock)(hs:StRow W.heap.size w' stv' acc'):
 RrS W (w'.setCell ⟨D7,0,none⟩ stv') B c D6 D7 b p fv0 fv fl0 fl vs0 vs full s gv l G stv' acc':=by
 have hm:=h.mid Gr
 have hbl:Below W.heap.size w w':=j9 Gr (fun q hq=>h.st.own q hq) h.rk.fr.size
 have hT:∀ (q:Nat) (cs:Array Value) (T:TypeId),w.heap[q]? = some (.cells cs T (0,0))→T≠42→w'.heap[q]? = w.heap[q]?:=fun q cs T hq ht=>Gr.block q (jA hq).1 fun e=>by
  obtain⟨us,h1,h2,h3⟩:=h.st.row
  obtain⟨cs',hc⟩:=jl h2 e.symm
  exact jI hq hc ht rfl
 have hrk:=h.rk.kept2 42 (by decide) hbl hT
 have ke:∀ q:Nat,q≠D7→(w'.setCell ⟨D7,0,none⟩ stv').heap[q]? = w'.heap[q]?:=fun q hq=>jS _ _ _ _ hq
 exact {
  rk:=(hrk.setT hm (by decide) h.h7 0 _).1
  b0:=(ke B h.hB7).trans ((hT _ _ _ h.b0 (by decide)).trans h.b0)
  b6:=(ke D6 (jI h.b6 h.b7 (by decide))).trans ((hT _ _ _ h.b6 (by decide)).trans h.b6)
  b7:=heap_setCell_same w' D7 0 _ 37 stv' hm
  pr:=⟨qP h.pr.row fun q hq=>by
   obtain⟨cs,hc⟩:=jl h.pr.row hq
   exact (ke q (jI hc h.b7 (by decide))).trans (hT _ _ _ hc (by decide)),h.pr.at_,h.pr.hg⟩
  st:=hs.kept fun q cs T hq _ ht=>ke q (jI hq hm (by rcases ht with rfl | rfl <;>decide))
  hB:=h.hB,h6:=h.h6,h7:=h.h7,hB7:=h.hB7 }
theorem RrS.first (h:RrS W w B c D6 D7 b p fv0 fv fl0 fl vs0 vs full s gv l G stv acc)(h1:G.length=s.size+1)(h2:s.size≤130)(h3:∀ x∈s.data.toList,x=98∨x=66):
 Calls Tryz.prog 58 #[.pointer (some ⟨c,0,none⟩),.agg #[.string s,gv]] w fun e W'=>∃ r:Int,e=.returned (.int .i64 r)∧Hid (FirstOK s.data.toList G r)∧Hid (Below w.heap.size w W'):=rfst_calls h.rk.rc h.pr h1 (by omega) h3
end
def RRedQ (R:Option RedR)(W:World)(p:Nat)(fv:Value)(e:Ending)(W':World): Prop :=
 ∃ (sa:Option Addr) (sn sc left eu ev em:Nat) (er:Int) (C':List Int) (fv':Value) (fl':List Value) (vs':List Int),e=.returned (.agg #[.slice sa sn sc,.int .i64 (left:Nat),.int .i64 (eu:Nat),.int .i64 (ev:Nat),.int .i64 (em:Nat),.int .i64 er])∧Hid (Fr (rF p fv) W W')∧Hid (RW C' W' p fv' fl' vs') ∧
  Hid ((R=none∧er=5∧left=0∧StRow W.heap.size W' (.slice sa sn sc) []∧AtE vs' Zero eu ev em)∨∃ st o G,R=some (st,o,G)∧er=0∧left=o.length∧StRow W.heap.size W' (.slice sa sn sc) st∧AtE vs' (endE o G) eu ev em∧EOK (endE o G))
theorem Fr.drop_new {c:Nat}{F:List Nat}{W:World}(h:Fr (c::F) W W')(hc:W.heap.size≤c): Fr F W W' :=
 ⟨h.os,h.tape,h.output,h.size,fun q hq hn=>h.block q hq fun hm=>by
  rcases List.mem_cons.1 hm with rfl | hm
  ·omega
  ·exact hn hm⟩
theorem RK.end6 {b:Nat}{W:World}{c p:Nat}{fv fv':Value}{fl fl':List Value}{vs vs':List Int}{full':Bool}(h:RK b W W' c p fv fv' fl fl' vs vs' full'){q:Nat}{cs:Array Value}(hq:W'.heap[q]? = some (.cells cs 37 (0,0)))(hl:W.heap.size≤q)(v0 v1 v2 v3 v4 v5:Value):
 RK b W ((((((W'.setCell ⟨q,0,none⟩ v0).setCell ⟨q,1,none⟩ v1).setCell ⟨q,2,none⟩ v2).setCell ⟨q,3,none⟩ v3).setCell ⟨q,4,none⟩ v4).setCell ⟨q,5,none⟩ v5) c p fv fv' fl fl' vs vs' full':=by
 obtain⟨f0,e0⟩:=h.setT hq (by decide) hl 0 v0
 obtain⟨f1,e1⟩:=f0.setT e0 (by decide) hl 1 v1
 obtain⟨f2,e2⟩:=f1.setT e1 (by decide) hl 2 v2
 obtain⟨f3,e3⟩:=f2.setT e2 (by decide) hl 3 v3
 obtain⟨f4,e4⟩:=f3.setT e3 (by decide) hl 4 v4
 exact (f4.setT e4 (by decide) hl 5 v5).1
theorem heap_end6 (W':World){q g:Nat}(hg:g≠q)(v0 v1 v2 v3 v4 v5:Value): ((((((W'.setCell ⟨q,0,none⟩ v0).setCell ⟨q,1,none⟩ v1).setCell ⟨q,2,none⟩ v2).setCell ⟨q,3,none⟩ v3).setCell ⟨q,4,none⟩ v4).setCell ⟨q,5,none⟩ v5).heap[g]? = W'.heap[g]? :=
 (jS _ _ _ _ hg).trans ((jS _ _ _ _ hg).trans ((jS _ _ _ _ hg).trans ((jS _ _ _ _ hg).trans ((jS _ _ _ _ hg).trans (jS _ _ _ _ hg)))))
theorem foldl_letters:∀ (l:List UInt8) (st:List UInt8×List E3),(∀ x∈l,x=97∨x=65∨x=98∨x=66)→(∀ x∈st.1,x=98∨x=66)→∀ x∈(l.foldl rdStep st).1,x=98∨x=66
 | [],st,_,h=>h
 | c::l,st,hl,h=>by
   refine foldl_letters l (rdStep st c) (fun x hx=>hl x (by simp[hx])) fun x hx=>?_
   unfold rdStep at hx
   split at hx
   ·exact h x hx
   ·split at hx
    ·exact h x hx
    ·rcases List.mem_append.1 hx with hx | hx
     ·exact h x hx
     ·rcases hl c (by simp) with e | e | e | e
      ·exact absurd e (by assumption)
      ·exact absurd e (by assumption)
      ·simp at hx; subst hx; exact .inl e
      ·simp at hx; subst hx; exact .inr e
theorem xO {l:List UInt8}(h:∀ x∈l,x=97∨x=65∨x=98∨x=66): ∀ x∈(readE l).1,x=98∨x=66:=foldl_letters l _ h (by simp)
theorem xP {o:List UInt8}(h:∀ x∈o,x=98∨x=66): ∀ x∈pinO o i,x=98∨x=66:=fun x hx=>by
 unfold pinO at hx
 rcases List.mem_append.1 hx with hx | hx
 ·exact h x (List.mem_of_mem_take hx)
 ·exact h x (List.mem_of_mem_drop hx)
theorem makeG_len {o:List UInt8}{G:List E3}{K:Int}(h:i+1<o.length)(hg:G.length=o.length+1): (makeG o G i K).length=(pinO o i).length+1:=by
 unfold pinO makeG makeGo; simp; omega
theorem makeG_eok {o:List UInt8}{G:List E3}(hK:allowed (pinK o G i))(h:makeF o G i (pinK o G i)=false)(hG:∀ x∈G,EOK x): ∀ x∈makeG o G i (pinK o G i),EOK x:=fun x hx=>by
 rw[makeG_ok hK h] at hx
 have hA:=((makeF_iff hK).1 h).2
 unfold pinG at hx
 rcases List.mem_append.1 hx with hx | hx
 ·rcases List.mem_append.1 hx with hx | hx
  ·exact hG x (List.mem_of_mem_take hx)
  ·simp at hx; subst hx
   exact hA.2.2.eok
 ·exact hG x (List.mem_of_mem_drop hx)
theorem endE_eok {o:List UInt8}{G:List E3}(h:∀ x∈G,EOK x): EOK (endE o G):=by
 unfold endE
 split
 ·cases G with
  | nil=>exact EOK.zero
  | cons g G=>exact h g (by simp)
 ·exact EOK.zero
theorem rred_calls {C:List Int}{W:World}{p:Nat}{fv:Value}{fl:List Value}{vs:List Int}(H:RW C W p fv fl vs){s:ByteArray}(hs:s.size≤130)(hw:isLt s.data.toList=true)(hC:C.length≤1000000000):
 Calls Tryz.prog 25 #[.pointer (some ⟨p,0,none⟩),.string s] W (RRedQ (traceE s.data.toList) W p fv):=by
 obtain⟨W1,B,hW1,hB,HS1⟩:∃ W1 B,(W.alloc (.cells #[.slice none 0 0,.int .i64 0,.int .i64 0,.int .i64 0,.int .i64 0,.int .i64 0] 37)).alloc (.cells #[.pointer (some ⟨p,0,none⟩),.bool false] 75)=W1∧W.heap.size=B∧Hid (RC 1000000000 W1 (B+1) p fv fl vs false∧Below W.heap.size W W1∧W1.heap[B]? = some (.cells #[.slice none 0 0,.int .i64 0,.int .i64 0,.int .i64 0,.int .i64 0,.int .i64 0] 37 (0,0))):=by
  have hbl:Below W.heap.size W ((W.alloc (.cells #[.slice none 0 0,.int .i64 0,.int .i64 0,.int .i64 0,.int .i64 0,.int .i64 0] 37)).alloc (.cells #[.pointer (some ⟨p,0,none⟩),.bool false] 75)):=((Below.refl _ _).alloc (jR _) _).alloc (by simp) _
  exact⟨_,_,rfl,rfl,⟨⟨C,hC,H.below hbl⟩,qA W _ _⟩,hbl,qU W _ _⟩
 have hR:=rread_calls HS1.out.1 hs hw (by omega)
 have HB0:=jH hB
 have Hw:=jH hw
 obtain⟨R,hRR⟩:∃ R,R=traceE s.data.toList:=⟨_,rfl⟩
 rw[← hRR]
 have HR0:Hid (R=redE (readE s.data.toList).1 (readE s.data.toList).2 0):=by show _=_; rw[hRR];rfl
 clear H hw hC hRR
 go_enter Tryz.func25,Tryz.ntmps25
 go_wp2_with fail
 refine hR.mono ?_
 rintro e w2 ⟨s1,gv1,l1,fv1,fl1,vs1,rfl,hs1,hz1,hp1,hA1,hk1⟩
 obtain⟨ga1,gc1,hgv⟩:=ja hp1.out.row
 subst hgv
 obtain⟨n1,hn1⟩:∃ n,n=l1.length:=⟨_,rfl⟩
 rw[← hn1] at hp1
 rw[← hn1]
 clear hn1 hR
 have hEO:∀ x∈(readE s.data.toList).2,EOK x:=fun x hx=>by
  obtain⟨i,hi⟩:=List.getElem?_of_mem hx
  obtain⟨n,rfl,hn⟩:=hA1.out i x hi
  exact powA_eok (by omega)
 have hLn:(readE s.data.toList).2.length=s1.size+1:=by
  have h:=z8 s.data.toList ([],[Zero]) rfl
  have h2:(readE s.data.toList).1.length=s1.size:=by rw[← hs1.out];simp
  rw[← h2];exact h
 have hLt:∀ x∈s1.data.toList,x=98∨x=66:=by
  rw[hs1.out];exact xO (zQ.1 Hw.out)
 obtain⟨D6,hD6⟩:∃ D,w2.heap.size=D:=⟨_,rfl⟩
 obtain⟨w3,hw3⟩:∃ w3,w3=(w2.alloc (.cells #[.string s1,.slice ga1 n1 gc1] 78)).alloc (.cells #[.slice none 0 0,.int .i64 0,.int .i64 0,.int .i64 0,.int .i64 0,.int .i64 0] 37):=⟨_,rfl⟩
 have HS3:Hid (RrS W w3 B (B+1) D6 (D6+1) (1000000000+21000000000*(s.size - s1.size)) p fv fv1 fl fl1 vs vs1 false s1 (.slice ga1 n1 gc1) l1 (readE s.data.toList).2 (.slice none 0 0) []):=by
  show RrS _ _ _ _ _ _ _ _ _ _ _ _ _ _ _ _ _ _ _ _ _
  have hbl:Below w2.heap.size w2 w3:=by rw[hw3];exact ((Below.refl _ _).alloc (jR _) _).alloc (by simp) _
  have h0:=HS1.out
  have hsz:W.heap.size≤w2.heap.size:=Nat.le_trans h0.2.1.size hk1.out.fr.size
  have hBl:B<w2.heap.size:=by
   have:=(jA h0.2.2).1
   have:=hk1.out.fr.size
   omega
  exact {
   rk:=(hk1.out.pre h0.2.1).post hbl
   b0:=Below.here hbl (jd h0.1 hk1.out h0.2.2 (by decide) (by decide) (by decide))
   b6:=by rw[hw3,← hD6];exact qU w2 _ _
   b7:=by rw[hw3,← hD6];exact qA w2 _ _
   pr:=hp1.out.below hbl
   st:=StRow.nil _ _
   hB:=by rw[← HB0.out];exact jR _
   h6:=by rw[← hD6];exact hsz
   h7:=by rw[← hD6];omega
   hB7:=by omega }
 have hF1:=HS3.out.first hLn (Nat.le_trans hz1.out hs) hLt
 rw[hw3] at hF1
 have HEO:=jH hEO
 have HLn:=jH hLn
 have HLt:=jH hLt
 have Hw3:=jH hw3
 clear hEO hLn hLt hk1 hA1 hp1 hw3
 go_wp2_with fail
 refine hF1.mono ?_
 rintro e w4 ⟨r,rfl,hf4,hb4⟩
 have HS4:=jH (HS3.out.below (by rw[Hw3.out];exact hb4.out))
 clear hF1 hb4
 have Hs1:=jH hs1.out
 have Hz1:=jH hz1.out
 clear hs1 hz1
 go_wp2_with fail
 go_loopg [8] s1.size (fun g1 v8 wr=>∃ (r:Int) (so:ByteArray) (ga:Option Addr) (n gc:Nat) (l:List N3) (G:List E3) (fv':Value) (fl':List Value) (vs':List Int) (full:Bool) (sa:Option Addr) (sn sc:Nat) (acc:List (Nat×Int)),v8=.int .i64 r∧so.size≤g1∧2*acc.length+so.size≤s.size∧Hid (FirstOK so.data.toList G r)∧Hid (G.length=so.size+1)∧Hid (∀ x∈so.data.toList,x=98∨x=66) ∧
  Hid (RrS W wr B (B+1) D6 (D6+1) (1000000000+21000000000*(s.size - so.size)) p fv fv' fl fl' vs vs' full so (.slice ga n gc) l G (.slice sa sn sc) acc)∧Hid ((full=false∧(∀ x∈G,EOK x)∧onto acc (redE so.data.toList G 0)=R)∨(full=true∧R=none)))
 case atStart=>exact⟨r,s1,ga1,n1,gc1,l1,_,fv1,fl1,vs1,false,none,0,0,[],rfl,jR _,by have:=Hz1.out; simpa using this,hf4,HLn,HLt,HS4,.inl ⟨rfl,HEO.out,by rw[onto_nil,HR0.out,Hs1.out]⟩⟩
 case round =>
  obtain⟨r,so,ga,n,gc,l,G,fv',fl',vs',full,sa,sn,sc,acc,rfl,hg,hss,HFi,HGl,HLe,HR,HIn⟩:=hrel
  have c1:=HR.out.rk.rc.c1
  have q0:wr.cell? ⟨B,0,none⟩=some (.slice none 0 0):=by rw[jB HR.out.b0];rfl
  have q1:wr.cell? ⟨B,1,none⟩=some (.int .i64 0):=by rw[jB HR.out.b0];rfl
  have q2:wr.cell? ⟨B,2,none⟩=some (.int .i64 0):=by rw[jB HR.out.b0];rfl
  have q3:wr.cell? ⟨B,3,none⟩=some (.int .i64 0):=by rw[jB HR.out.b0];rfl
  have q4:wr.cell? ⟨B,4,none⟩=some (.int .i64 0):=by rw[jB HR.out.b0];rfl
  have q5:wr.cell? ⟨B,5,none⟩=some (.int .i64 0):=by rw[jB HR.out.b0];rfl
  by_cases hfull:full=true
  ·subst hfull
   have HRn:Hid (R=none):=by
    rcases HIn.out with h | h
    ·exact absurd h.1 (by decide)
    ·exact h.2
   by_cases hr0:0≤r
   ·have hr1:decide (0≤r)=true:=by simpa using hr0
    have fB:=fun o=>jF HR.out.b0 o
    go_wp2_with fail
    refine bodyPost_ret (v:=.agg #[.slice none 0 0,.int .i64 0,.int .i64 0,.int .i64 0,.int .i64 0,.int .i64 5]) (by simp[results,Tryz.results25,go_sem,q0,q1,q2,q3,q4,q5]) rfl ?_
    have hK:=HR.out.rk.end6 HR.out.b0 HR.out.hB (.slice none 0 0) (.int .i64 0) (.int .i64 0) (.int .i64 0) (.int .i64 0) (.int .i64 5)
    obtain⟨Cx,-,hrw⟩:=hK.rc.rw
    exact⟨none,0,0,0,0,0,0,5,Cx,_,_,_,rfl,hK.fr.drop_new (by have:=HR.out.hB; omega),hrw,.inl ⟨HRn.out,rfl,rfl,StRow.nil _ _,hrw.wv.zero,hrw.wv.zero,hrw.wv.zero⟩⟩
   ·have hr1:decide (0≤r)=false:=by simpa using hr0
    have fB:=fun o=>jF HR.out.b0 o
    go_wp2_with fail
    refine bodyPost_ret (v:=.agg #[.slice none 0 0,.int .i64 0,.int .i64 0,.int .i64 0,.int .i64 0,.int .i64 5]) (by simp[results,Tryz.results25,go_sem,q0,q1,q2,q3,q4,q5]) rfl ?_
    have hK:=HR.out.rk.end6 HR.out.b0 HR.out.hB (.slice none 0 0) (.int .i64 0) (.int .i64 0) (.int .i64 0) (.int .i64 0) (.int .i64 5)
    obtain⟨Cx,-,hrw⟩:=hK.rc.rw
    exact⟨none,0,0,0,0,0,0,5,Cx,_,_,_,rfl,hK.fr.drop_new (by have:=HR.out.hB; omega),hrw,.inl ⟨HRn.out,rfl,rfl,StRow.nil _ _,hrw.wv.zero,hrw.wv.zero,hrw.wv.zero⟩⟩
  ·have hff:full=false:=by simpa using hfull
   subst hff
   obtain⟨HGo,HRe⟩:Hid (∀ x∈G,EOK x)∧Hid (onto acc (redE so.data.toList G 0)=R):=by
    rcases HIn.out with h | h
    ·exact⟨h.2.1,h.2.2⟩
    ·exact absurd h.1 (by decide)
   clear hfull
   by_cases hr0:0≤r
   ·have hr1:decide (0≤r)=true:=by simpa using hr0
    obtain⟨i,rfl,HPi,HMin⟩:∃ i:Nat,r=i∧Hid (pinR so.data.toList G (i:Nat)=true)∧Hid (∀ j<i,pinR so.data.toList G (j:Nat)=false):=by
     rcases HFi.out with ⟨h,_⟩ | ⟨i,h1,h2,h3⟩
     ·omega
     ·exact⟨i,h1,h2,h3⟩
    clear hr0
    have hi:=(zg HPi.out).1
    have hpa:=(zg HPi.out).2
    have hn:i+1<so.size:=by simpa using hi
    have i7:i<so.size:=by omega
    obtain⟨g,hgg⟩:∃ g,G[i+1]? = some g:=⟨_,jG (by have:=HGl.out; omega)⟩
    have hgd:so.data.toList.getD i 0=so[i]:=ba_get i7
    have hx1:=HLe.out so[i] (by rw[← hgd,List.getD_eq_getElem?_getD,jG (by simpa using i7)];exact List.getElem_mem _)
    have HKe:Hid (pinK so.data.toList G i=powE so[i] g):=by show _=_; unfold pinK; rw[hgd,List.getD_eq_getElem?_getD,hgg];rfl
    have hv:so[i]=98→g.u≠0→0≤g.v:=by
     intro h1 h2
     unfold pinAt at hpa
     have hg2:G.getD (i+1) Zero=g:=by rw[List.getD_eq_getElem?_getD,hgg];rfl
     rw[hgd,h1,hg2,Bool.and_eq_true] at hpa
     have h3:=hpa.2
     unfold pinB at h3
     rw[if_pos rfl,decide_eq_true_eq] at h3
     rcases h3.2 with h4 | h4
     ·exact absurd h4 h2
     ·exact h4
    have HBb:Hid (1000000000+21000000000*(s.size - so.size)+42000000000≤5000000000000):=by show _≤_; omega
    have hP:=rpow_calls HR.out.rk.rc HR.out.pr HGl.out (by omega) hn hx1 hgg (HGo.out g (jM hgg)) hv (by have:=HBb.out; omega)
    have y0:wr.cell? ⟨D6,0,none⟩=some (.string so):=by rw[jB HR.out.b6];rfl
    have y1:wr.cell? ⟨D6,1,none⟩=some (.slice ga n gc):=by rw[jB HR.out.b6];rfl
    have Hn:=jH hn
    have Hx1:=jH hx1
    clear hi hpa hgg hgd hx1 hv
    go_wp2_with fail
    refine hP.mono ?_
    rintro e w2 ⟨q,fv2,fl2,vs2,rfl,hk2,hq2⟩
    have HR2:=jH (HR.out.call hk2.out)
    clear hP hk2 q0 q1 q2 q3 q4 q5 y0 y1 c1
    rw[← HKe.out] at HR2 hq2
    obtain⟨K,hK⟩:∃ K,K=pinK so.data.toList G i:=⟨_,rfl⟩
    rw[← hK] at HR2 hq2
    have HK:=jH hK
    clear hK
    by_cases hal:allowed K
    ·have hof:orFull false K=false:=zN.2 hal
     rw[hof] at HR2
     clear hof
     have HAl:=jH hal
     clear hal
     have c1:=HR2.out.rk.rc.c1
     have d0:w2.cell? ⟨D6+1,0,none⟩=some (.slice sa sn sc):=by rw[jB HR2.out.b7];rfl
     have HbA:Hid (acc.length+1≤1099511627776):=by show _≤_; omega
     go_upto_region 9 with fail
     go_cut [48] from 40 to 49 (fun _ wq=>∃ (sa':Option Addr) (sn' sc':Nat),Hid (RrS W wq B (B+1) D6 (D6+1) (1000000000+21000000000*(s.size - so.size)+600000000) p fv fv2 fl fl2 vs vs2 false so (.slice ga n gc) l G (.slice sa' sn' sc') (acc++[(i,K)])))
     case first =>
      obtain⟨C2,hC2⟩:=HR2.out.rk.rc.rw
      have hBy:=fun M=>xL (hC2.2.drewN M) hq2.out HAl.out
      have hbA:=HbA.out
      clear hC2
      go_region_law (first
       | (refine step_S1 rfl (.tmp 41) (.tmp 47) rfl (.slice sa sn sc) acc.length (stc acc us) rfl (zJ HRow.out (jV w5 _).out) w5.heap.size (i:Int) (.slice ba (nbytes K).length bc) rfl rfl (jD w5 _) hbA _ rfl ?_; intro g7 c7 w7 K7 G7 A7 L7
          have hd7:=(HR5.out.below (jV w5 _).out).mid G7
          have HR7:=jH ((HR5.out.below (jV w5 _).out).app G7 (StRow.snoc (s:=(i,K)) HR5.out.st HUl.out HUs.out HBr.out HBo.out HR5.out.rk.fr.size K7 G7 (A7.elim (fun h=>.inl h.symm) (fun h=>.inr (by rw[h];rfl)))))
          have fd7:=fun o=>jF hd7 o
          have d7:w7.cell? ⟨D6+1,0,none⟩=some (.slice sa sn sc):=by rw[jB hd7];rfl
          clear K7 G7 A7 L7)
       | (go_simp; go_at_call 37; refine (hBy _).mono ?_; rintro e5 w5 ⟨bv,rfl,hbr,hb5,hbo⟩
          obtain⟨ba,bc,hbv⟩:=ja hbr.out
          subst hbv
          have hbl5:Below w2.heap.size w2 w5:=Below.trans' (jN w2 _) hb5.out
          have HR5:=jH (HR2.out.below hbl5)
          have HBr:=jH hbr.out
          have HBo:Hid (∀ b,(Value.slice ba (nbytes K).length bc).ownBlock=some b→W.heap.size≤b):=fun b e=>Nat.le_trans HR2.out.rk.fr.size (hbo.out b e)
          obtain⟨us,hul,hrow,hus⟩:=HR5.out.st.row
          have HRow:=jH hrow
          have HUl:=jH hul
          have HUs:Hid (∀ (i:Nat) (u:Value) (s:Nat×Int),us[i]? = some u→acc[i]? = some s→BRow w5 u (nbytes s.2)∧∀ b,u.ownBlock=some b→W.heap.size≤b):=hus
          have d5:w5.cell? ⟨D6+1,0,none⟩=some (.slice sa sn sc):=by rw[jB HR5.out.b7];rfl
          have d6:∀ o,(w5.alloc o).cell? ⟨D6+1,0,none⟩=some (.slice sa sn sc):=fun o=>by rw[jB (HR5.out.below (jV w5 o).out).b7];rfl
          clear hbr hb5 hbo hul hrow hus hbl5))
      all_goals
       go_wp2_with fail
       go_meet
       case rel=>exact⟨_,_,_,HR7⟩
     case rest =>
      obtain⟨sa2,sn2,sc2,HR9⟩:=hcut
      obtain⟨w9,rfl⟩:∃ w9,w9=wc:=⟨_,rfl⟩
      clear c1 d0
      have y0:w9.cell? ⟨D6,0,none⟩=some (.string so):=by rw[jB HR9.out.b6];rfl
      have y1:w9.cell? ⟨D6,1,none⟩=some (.slice ga n gc):=by rw[jB HR9.out.b6];rfl
      have hMk:=rmake_calls HR9.out.rk.rc HR9.out.pr HGl.out (by omega) Hn.out Hx1.out HGo.out hq2.out HAl.out (by have:=HBb.out; omega)
      go_wp2_with fail
      refine hMk.mono ?_
      rintro e w10 ⟨s3,gv3,l3,fv3,fl3,vs3,rfl,hs3,hp3,hk3⟩
      obtain⟨ga3,gc3,hgv3⟩:=ja hp3.out.row
      subst hgv3
      obtain⟨n3,hn3⟩:∃ n,n=l3.length:=⟨_,rfl⟩
      rw[← hn3] at hp3
      rw[← hn3]
      clear hn3 hMk y0 y1
      have HR10:=jH (HR9.out.call hk3.out)
      have HR11:=jH (HR10.out.set6 (s':=s3) hp3.out)
      have Hs3:=jH hs3.out
      have Hz3:Hid (s3.size+2=so.size):=by
       have h1:=zd (o:=so.data.toList) (i:=i) (by have:=Hn.out; simpa using this)
       rw[← Hs3.out] at h1
       show _=_
       simpa using h1
      have HL3:Hid ((makeG so.data.toList G i K).length=s3.size+1):=by
       have h1:=makeG_len (o:=so.data.toList) (G:=G) (i:=i) (K:=K) (by have:=Hn.out; simpa using this) (by have:=HGl.out; simpa using this)
       rw[← Hs3.out] at h1
       show _=_
       simpa using h1
      have HLe3:Hid (∀ x∈s3.data.toList,x=98∨x=66):=by
       show ∀ x∈s3.data.toList,_
       rw[Hs3.out];exact xP HLe.out
      have hF:=HR11.out.first HL3.out (by have:=Hz3.out; omega) HLe3.out
      have y0:w10.cell? ⟨D6,0,none⟩=some (.string so):=by rw[jB HR10.out.b6];rfl
      have y1:w10.cell? ⟨D6,1,none⟩=some (.slice ga n gc):=by rw[jB HR10.out.b6];rfl
      have fy:=fun o=>jF HR10.out.b6 o
      have Hp3:=jH hp3.out
      clear hs3 hp3 hk3
      go_wp2_with fail
      refine hF.mono ?_
      rintro e w12 ⟨r3,rfl,hf3,hb3⟩
      have HR12:=jH (HR11.out.below hb3.out)
      clear hF hb3
      go_wp2_with fail
      go_roundg (s3.size)
      case measure=>have:=Hz3.out; omega
      case rel=>exact⟨r3,s3,ga3,n3,gc3,l3,makeG so.data.toList G i K,fv3,fl3,vs3,makeF so.data.toList G i K,sa2,sn2,sc2,acc++[(i,K)],by go_num,jR _,by have:=Hz3.out; rw[List.length_append];simp; omega,hf3,HL3,HLe3,HR12.out.mono (by have:=Hz3.out; omega),by
       show _∨_
       have hn:=Hn.out
       have hl:i+1<so.data.toList.length:=by simpa using hn
       have hgl:G.length=so.data.toList.length+1:=by have:=HGl.out; simpa using this
       have hal:=HAl.out
       have hKe:=HK.out
       subst hKe
       cases hmf:makeF so.data.toList G i (pinK so.data.toList G i) with
       | false=>exact .inl ⟨rfl,makeG_eok hal hmf HGo.out,by
        rw[← HRe.out,red_step hgl HPi.out HMin.out ((makeF_iff hal).1 hmf) acc,Hs3.out,makeG_ok hal hmf]⟩
       | true=>exact .inr ⟨rfl,by
        rw[← HRe.out,red_full HPi.out HMin.out (fun h=>by rw[(makeF_iff hal).2 h] at hmf; exact absurd hmf (by decide))];rfl⟩⟩
    ·have hof:orFull false K=true:=by
      cases h:orFull false K with
      | true=>rfl
      | false=>exact absurd (zN.1 h) hal
     rw[hof] at HR2
     have HRn:Hid (R=none):=by
      show _=_
      rw[← HRe.out,red_full HPi.out HMin.out (fun h=>hal (by rw[HK.out];exact h.1))];rfl
     clear hal hof
     have c1:=HR2.out.rk.rc.c1
     have q0:w2.cell? ⟨B,0,none⟩=some (.slice none 0 0):=by rw[jB HR2.out.b0];rfl
     have q1:w2.cell? ⟨B,1,none⟩=some (.int .i64 0):=by rw[jB HR2.out.b0];rfl
     have q2:w2.cell? ⟨B,2,none⟩=some (.int .i64 0):=by rw[jB HR2.out.b0];rfl
     have q3:w2.cell? ⟨B,3,none⟩=some (.int .i64 0):=by rw[jB HR2.out.b0];rfl
     have q4:w2.cell? ⟨B,4,none⟩=some (.int .i64 0):=by rw[jB HR2.out.b0];rfl
     have q5:w2.cell? ⟨B,5,none⟩=some (.int .i64 0):=by rw[jB HR2.out.b0];rfl
     have fB:=fun o=>jF HR2.out.b0 o
     go_wp2_with fail
     refine bodyPost_ret (v:=.agg #[.slice none 0 0,.int .i64 0,.int .i64 0,.int .i64 0,.int .i64 0,.int .i64 5]) (by simp[results,Tryz.results25,go_sem,q0,q1,q2,q3,q4,q5]) rfl ?_
     have hK:=HR2.out.rk.end6 HR2.out.b0 HR2.out.hB (.slice none 0 0) (.int .i64 0) (.int .i64 0) (.int .i64 0) (.int .i64 0) (.int .i64 5)
     obtain⟨Cx,-,hrw⟩:=hK.rc.rw
     exact⟨none,0,0,0,0,0,0,5,Cx,_,_,_,rfl,hK.fr.drop_new (by have:=HR2.out.hB; omega),hrw,.inl ⟨HRn.out,rfl,rfl,StRow.nil _ _,hrw.wv.zero,hrw.wv.zero,hrw.wv.zero⟩⟩
   ·have hr1:decide (0≤r)=false:=by simpa using hr0
    have HRd:Hid (R=some (acc,so.data.toList,G)):=by
     rcases HFi.out with ⟨_,h⟩ | ⟨i,h1,_,_⟩
     ·show _=_; rw[← HRe.out,red_done h,onto_some]
     ·exact absurd hr0 (by omega)
    have e6:=HR.out.b6
    have y0:wr.cell? ⟨D6,0,none⟩=some (.string so):=by rw[jB e6];rfl
    have y1:wr.cell? ⟨D6,1,none⟩=some (.slice ga n gc):=by rw[jB e6];rfl
    have hE:=rend_calls HR.out.rk.rc.wv HR.out.pr HGl.out (by omega)
    clear e6
    go_wp2_with fail
    refine hE.mono ?_
    rintro e w5 ⟨iu,iv,im,rfl,hat,hb5⟩
    have HR5:=jH (HR.out.below hb5.out)
    clear hE hb5 q0 q1 q2 q3 q4 q5 c1 y0 y1
    have q0:w5.cell? ⟨B,0,none⟩=some (.slice none 0 0):=by rw[jB HR5.out.b0];rfl
    have q1:w5.cell? ⟨B,1,none⟩=some (.int .i64 0):=by rw[jB HR5.out.b0];rfl
    have q2:w5.cell? ⟨B,2,none⟩=some (.int .i64 0):=by rw[jB HR5.out.b0];rfl
    have q3:w5.cell? ⟨B,3,none⟩=some (.int .i64 0):=by rw[jB HR5.out.b0];rfl
    have q4:w5.cell? ⟨B,4,none⟩=some (.int .i64 0):=by rw[jB HR5.out.b0];rfl
    have q5:w5.cell? ⟨B,5,none⟩=some (.int .i64 0):=by rw[jB HR5.out.b0];rfl
    have d0:w5.cell? ⟨D6+1,0,none⟩=some (.slice sa sn sc):=by rw[jB HR5.out.b7];rfl
    have d1:w5.cell? ⟨D6+1,1,none⟩=some (.int .i64 0):=by rw[jB HR5.out.b7];rfl
    have d2:w5.cell? ⟨D6+1,2,none⟩=some (.int .i64 0):=by rw[jB HR5.out.b7];rfl
    have d3:w5.cell? ⟨D6+1,3,none⟩=some (.int .i64 0):=by rw[jB HR5.out.b7];rfl
    have d4:w5.cell? ⟨D6+1,4,none⟩=some (.int .i64 0):=by rw[jB HR5.out.b7];rfl
    have d5:w5.cell? ⟨D6+1,5,none⟩=some (.int .i64 0):=by rw[jB HR5.out.b7];rfl
    have fB:=fun o=>jF HR5.out.b0 o
    have fD:=fun o=>jF HR5.out.b7 o
    have nB1:B≠D6+1:=HR5.out.hB7
    have nB2:D6+1≠B:=Ne.symm nB1
    go_wp2_with fail
    refine bodyPost_ret (v:=.agg #[.slice sa sn sc,.int .i64 (so.size:Nat),.int .i64 (iu:Nat),.int .i64 (iv:Nat),.int .i64 (im:Nat),.int .i64 0]) (by simp[results,Tryz.results25,go_sem,q0,q1,q2,q3,q4,q5]) rfl ?_
    obtain⟨f1,e1⟩:=HR5.out.rk.setT HR5.out.b7 (by decide) HR5.out.h7 1 (.int .i64 (so.size:Nat))
    obtain⟨f2,e2⟩:=f1.setT e1 (by decide) HR5.out.h7 2 (.int .i64 (iu:Nat))
    obtain⟨f3,e3⟩:=f2.setT e2 (by decide) HR5.out.h7 3 (.int .i64 (iv:Nat))
    obtain⟨f4,e4⟩:=f3.setT e3 (by decide) HR5.out.h7 4 (.int .i64 (im:Nat))
    have kD:∀ g:Nat,g≠D6+1→((((w5.setCell ⟨D6+1,1,none⟩ (.int .i64 (so.size:Nat))).setCell ⟨D6+1,2,none⟩ (.int .i64 (iu:Nat))).setCell ⟨D6+1,3,none⟩ (.int .i64 (iv:Nat))).setCell ⟨D6+1,4,none⟩ (.int .i64 (im:Nat))).heap[g]? = w5.heap[g]?:=fun g hg =>
     (jS _ _ _ _ hg).trans ((jS _ _ _ _ hg).trans ((jS _ _ _ _ hg).trans (jS _ _ _ _ hg)))
    have hB4:=(kD B nB1).trans HR5.out.b0
    have hK:=f4.end6 hB4 HR5.out.hB (.slice sa sn sc) (.int .i64 (so.size:Nat)) (.int .i64 (iu:Nat)) (.int .i64 (iv:Nat)) (.int .i64 (im:Nat)) (.int .i64 0)
    obtain⟨Cx,-,hrw⟩:=hK.rc.rw
    have hst:=HR5.out.st.kept (w':=(((((((((w5.setCell ⟨D6+1,1,none⟩ (.int .i64 (so.size:Nat))).setCell ⟨D6+1,2,none⟩ (.int .i64 (iu:Nat))).setCell ⟨D6+1,3,none⟩ (.int .i64 (iv:Nat))).setCell ⟨D6+1,4,none⟩ (.int .i64 (im:Nat))).setCell ⟨B,0,none⟩ (.slice sa sn sc)).setCell ⟨B,1,none⟩ (.int .i64 (so.size:Nat))).setCell ⟨B,2,none⟩ (.int .i64 (iu:Nat))).setCell ⟨B,3,none⟩ (.int .i64 (iv:Nat))).setCell ⟨B,4,none⟩ (.int .i64 (im:Nat))).setCell ⟨B,5,none⟩ (.int .i64 0)) fun q cs T hq _ ht =>
     (heap_end6 _ (jI hq HR5.out.b0 (by rcases ht with rfl | rfl <;>decide)) _ _ _ _ _ _).trans (kD q (jI hq HR5.out.b7 (by rcases ht with rfl | rfl <;>decide)))
    exact⟨sa,sn,sc,so.size,iu,iv,im,0,Cx,_,_,_,rfl,hK.fr.drop_new (by have:=HR5.out.hB; omega),hrw,.inr ⟨acc,so.data.toList,G,HRd.out,rfl,by simp,hst,hat.out,endE_eok HGo.out⟩⟩
end
section
open Classical in
noncomputable def outc (l:List UInt8): List (Nat×Int)×Nat×E3×Int :=
 if isWordL l=true then (match traceE l with
  | none=>([],0,Zero,5)
  | some (st,o,G)=>(st,o.length,endE o G,0)) else ([],0,Zero,2)
variable {l:List UInt8} {W:World} {p q:Nat} {fv:Value} {fl:List Value}
theorem outc_bad (h:isWordL l=false): outc l=([],0,Zero,2):=by unfold outc; rw[if_neg (by simp[h])]
theorem outc_full (h:isWordL l=true)(h1:traceE l=none): outc l=([],0,Zero,5):=by unfold outc; rw[if_pos h,h1]
theorem outc_ok (h:isWordL l=true){st:List (Nat×Int)}{o:List UInt8}{G:List E3}(h1:traceE l=some (st,o,G)): outc l=(st,o.length,endE o G,0):=by unfold outc; rw[if_pos h,h1]
def TrU (oc:List (Nat×Int)×Nat×E3×Int)(W:World)(e:Ending)(W':World): Prop :=
 ∃ (sa:Option Addr) (sn sc:Nat) (qu qv qm:Option Addr),e=.returned (.tuple #[.slice sa sn sc,.int .i64 (oc.2.1:Nat),.agg #[.pointer qu,.pointer qv,.pointer qm],.int .i64 oc.2.2.2])∧Hid (Below W.heap.size W W')∧Hid (StRow W.heap.size W' (.slice sa sn sc) oc.1)∧Hid (IsE W' (.agg #[.pointer qu,.pointer qv,.pointer qm]) oc.2.2.1)
theorem trU {s:ByteArray}(hs:s.size≤9223372036854775807): Calls Tryz.prog 14 #[.string s] W (TrU (outc s.data.toList) W):=by
 refine (Trace_any hs).mono ?_
 rintro e W' ⟨hb,⟨h1,rfl⟩ | ⟨h1,h2,rfl⟩ | ⟨h1,st,o,G,h2,sa,sn,sc,qu,qv,qm,rfl,h3,h4⟩⟩
 ·rw[outc_bad h1]
  exact⟨none,0,0,none,none,none,rfl,hb,StRow.nil _ _,none,none,none,rfl,j4 _,j4 _,j4 _⟩
 ·rw[outc_full h1 h2]
  exact⟨none,0,0,none,none,none,rfl,hb,StRow.nil _ _,none,none,none,rfl,j4 _,j4 _,j4 _⟩
 ·rw[outc_ok h1 h2]
  exact⟨sa,sn,sc,qu,qv,qm,rfl,hb,h3,h4⟩
def RTrQ (oc:List (Nat×Int)×Nat×E3×Int)(W:World)(p:Nat)(fv:Value)(e:Ending)(W':World): Prop :=
 ∃ (sa:Option Addr) (sn sc eu ev em:Nat) (C':List Int) (fv':Value) (fl':List Value) (vs':List Int),e=.returned (.agg #[.slice sa sn sc,.int .i64 (oc.2.1:Nat),.int .i64 (eu:Nat),.int .i64 (ev:Nat),.int .i64 (em:Nat),.int .i64 oc.2.2.2])∧Hid (Fr (rF p fv) W W')∧Hid (RW C' W' p fv' fl' vs') ∧
  Hid (StRow W.heap.size W' (.slice sa sn sc) oc.1∧AtE vs' oc.2.2.1 eu ev em∧EOK oc.2.2.1)
theorem StRow.lo {B0 B1:Nat}{w:World}{v:Value}{st:List (Nat×Int)}(h:StRow B0 w v st)(hb:B1≤B0): StRow B1 w v st:=by
 obtain⟨vs,h1,h2,h3⟩:=h.row
 exact⟨⟨vs,h1,h2,fun i u s hu hs=>⟨(h3 i u s hu hs).1,fun b hb'=>Nat.le_trans hb ((h3 i u s hu hs).2 b hb')⟩⟩,fun b hb'=>Nat.le_trans hb (h.own b hb')⟩
theorem rF_rB {b:Nat}(h:b∈rF p fv): b∈rB p fv fl:=by
 rcases List.mem_cons.1 h with rfl | h
 ·exact yK.2 (.inl rfl)
 ·exact yK.2 (.inr (.inl (by simpa using h)))
theorem end6_rw {C:List Int}{vs:List Int}(h:RW C W p fv fl vs){cs:Array Value}(hq:W.heap[q]? = some (.cells cs 37 (0,0)))(v0 v1 v2 v3 v4 v5:Value):
 RW C ((((((W.setCell ⟨q,0,none⟩ v0).setCell ⟨q,1,none⟩ v1).setCell ⟨q,2,none⟩ v2).setCell ⟨q,3,none⟩ v3).setCell ⟨q,4,none⟩ v4).setCell ⟨q,5,none⟩ v5) p fv fl vs :=
 h.kept fun b hb=>heap_end6 W (fun e=>by subst e; exact h.other hq (by decide) (by decide) (by decide) hb) v0 v1 v2 v3 v4 v5
theorem fr1 {F:List Nat}{W0:World}(h:Fr F W0 W)(hq:W0.heap.size≤q)(o:Nat)(v:Value): Fr F W0 (W.setCell ⟨q,o,none⟩ v) :=
 ⟨h.os,h.tape,h.output,by have:=h.size; simpa using this,fun b hb hn=>(jS _ _ _ _ (by show b≠q; omega)).trans (h.block b hb hn)⟩
theorem end6_fr {F:List Nat}{W0:World}(h:Fr F W0 W)(hq:W0.heap.size≤q)(v0 v1 v2 v3 v4 v5:Value):
 Fr F W0 ((((((W.setCell ⟨q,0,none⟩ v0).setCell ⟨q,1,none⟩ v1).setCell ⟨q,2,none⟩ v2).setCell ⟨q,3,none⟩ v3).setCell ⟨q,4,none⟩ v4).setCell ⟨q,5,none⟩ v5) :=
 fr1 (fr1 (fr1 (fr1 (fr1 (fr1 h hq 0 v0) hq 1 v1) hq 2 v2) hq 3 v3) hq 4 v4) hq 5 v5
theorem rtrace_calls {C:List Int}{vs:List Int}(H:RW C W p fv fl vs)(hC:C.length≤1000000000){s:ByteArray}(hs:s.size≤9223372036854775807)(hz:s.size≤130∨400<s.size):
 Calls Tryz.prog 16 #[.pointer (some ⟨p,0,none⟩),.string s] W (RTrQ (outc s.data.toList) W p fv):=by
 obtain⟨W1,B,hW1,hB,HS1⟩:∃ W1 B,W.alloc (.cells #[.slice none 0 0,.int .i64 0,.int .i64 0,.int .i64 0,.int .i64 0,.int .i64 0] 37)=W1∧W.heap.size=B∧Hid (RW C W1 p fv fl vs∧Below W.heap.size W W1∧W1.heap[B]? = some (.cells #[.slice none 0 0,.int .i64 0,.int .i64 0,.int .i64 0,.int .i64 0,.int .i64 0] 37 (0,0))) :=
  ⟨_,_,rfl,rfl,H.below (jV W _).out,(jV W _).out,jD W _⟩
 have hI:=yU (W:=W1) hs (n:=400) (by decide)
 have hsz:s.data.toList.length=s.size:=by simp
 have HB0:=jH hB
 clear H
 go_enter Tryz.func16,Tryz.ntmps16
 go_wp2_with fail
 refine hI.mono ?_
 rintro e w2 ⟨rfl,hb2⟩
 have HS2:Hid (RW C w2 p fv fl vs∧Below W.heap.size W w2∧w2.heap[B]? = some (.cells #[.slice none 0 0,.int .i64 0,.int .i64 0,.int .i64 0,.int .i64 0,.int .i64 0] 37 (0,0))):=⟨HS1.out.1.below hb2.out,Below.trans' HS1.out.2.1 hb2.out,Below.here hb2.out HS1.out.2.2⟩
 have hwl:(isLt s.data.toList&&decide (s.size≤400))=isWordL s.data.toList:=by
  rw[Bool.eq_iff_iff,Bool.and_eq_true,decide_eq_true_eq,jf,hsz]
 rw[hwl]
 have Hwl:=jH hwl
 have HhB:Hid (W.heap.size≤B):=by show _≤_; omega
 clear hI hb2 hwl hsz
 obtain⟨tb,htb⟩:∃ tb,isWordL s.data.toList=tb:=⟨_,rfl⟩
 rw[htb]
 have Htb:=jH htb
 clear htb
 cases tb with
 | false =>
   have q0:w2.cell? ⟨B,0,none⟩=some (.slice none 0 0):=by rw[jB HS2.out.2.2];rfl
   have q1:w2.cell? ⟨B,1,none⟩=some (.int .i64 0):=by rw[jB HS2.out.2.2];rfl
   have q2:w2.cell? ⟨B,2,none⟩=some (.int .i64 0):=by rw[jB HS2.out.2.2];rfl
   have q3:w2.cell? ⟨B,3,none⟩=some (.int .i64 0):=by rw[jB HS2.out.2.2];rfl
   have q4:w2.cell? ⟨B,4,none⟩=some (.int .i64 0):=by rw[jB HS2.out.2.2];rfl
   have q5:w2.cell? ⟨B,5,none⟩=some (.int .i64 0):=by rw[jB HS2.out.2.2];rfl
   have fB:=fun o=>jF HS2.out.2.2 o
   go_wp2_with fail
   refine bodyPost_ret (v:=.agg #[.slice none 0 0,.int .i64 0,.int .i64 0,.int .i64 0,.int .i64 0,.int .i64 2]) (by simp[results,Tryz.results16,go_sem,q0,q1,q2,q3,q4,q5]) rfl ?_
   rw[outc_bad Htb.out]
   have hrw:=end6_rw HS2.out.1 HS2.out.2.2 (.slice none 0 0) (.int .i64 0) (.int .i64 0) (.int .i64 0) (.int .i64 0) (.int .i64 2)
   have hbl:=end6_fr (F:=rF p fv) (Fr.of_below HS2.out.2.1) HhB.out (.slice none 0 0) (.int .i64 0) (.int .i64 0) (.int .i64 0) (.int .i64 0) (.int .i64 2)
   exact⟨none,0,0,0,0,0,C,fv,fl,vs,rfl,hbl,hrw,StRow.nil _ _,⟨hrw.wv.zero,hrw.wv.zero,hrw.wv.zero⟩,EOK.zero⟩
 | true =>
   have hle:s.size≤130:=by
    have:=(jf.1 Htb.out).2
    have h2:s.data.toList.length=s.size:=by simp
    omega
   have hRd:=rred_calls HS2.out.1 hle (jf.1 Htb.out).1 hC
   clear hle
   go_wp2_with fail
   refine hRd.mono ?_
   rintro e w3 ⟨sa,sn,sc,left,eu,ev,em,er,C3,fv3,fl3,vs3,rfl,hf3,hr3,ho3⟩
   have HX3:Hid (w3.heap[B]? = some (.cells #[.slice none 0 0,.int .i64 0,.int .i64 0,.int .i64 0,.int .i64 0,.int .i64 0] 37 (0,0))):=(hf3.out.block B (jA HS2.out.2.2).1 (fun hm=>HS2.out.1.other HS2.out.2.2 (by decide) (by decide) (by decide) (rF_rB hm))).trans HS2.out.2.2
   have q0:w3.cell? ⟨B,0,none⟩=some (.slice none 0 0):=by rw[jB HX3.out];rfl
   have q1:w3.cell? ⟨B,1,none⟩=some (.int .i64 0):=by rw[jB HX3.out];rfl
   have q2:w3.cell? ⟨B,2,none⟩=some (.int .i64 0):=by rw[jB HX3.out];rfl
   have q3:w3.cell? ⟨B,3,none⟩=some (.int .i64 0):=by rw[jB HX3.out];rfl
   have q4:w3.cell? ⟨B,4,none⟩=some (.int .i64 0):=by rw[jB HX3.out];rfl
   have q5:w3.cell? ⟨B,5,none⟩=some (.int .i64 0):=by rw[jB HX3.out];rfl
   have fB:=fun o=>jF HX3.out o
   have Hf3:=jH hf3.out
   have Hr3:=jH hr3.out
   clear hRd hf3 hr3
   go_wp2_with fail
   refine bodyPost_ret (v:=.agg #[.slice sa sn sc,.int .i64 (left:Nat),.int .i64 (eu:Nat),.int .i64 (ev:Nat),.int .i64 (em:Nat),.int .i64 er]) (by simp[results,Tryz.results16,go_sem,q0,q1,q2,q3,q4,q5]) rfl ?_
   have hrw:=end6_rw Hr3.out HX3.out (.slice sa sn sc) (.int .i64 (left:Nat)) (.int .i64 (eu:Nat)) (.int .i64 (ev:Nat)) (.int .i64 (em:Nat)) (.int .i64 er)
   have hfr:Fr (rF p fv) W w3:=Fr.pre (Fr.of_below HS2.out.2.1) Hf3.out
   have hfr2:=end6_fr hfr HhB.out (.slice sa sn sc) (.int .i64 (left:Nat)) (.int .i64 (eu:Nat)) (.int .i64 (ev:Nat)) (.int .i64 (em:Nat)) (.int .i64 er)
   have hst:∀ {st:List (Nat×Int)},StRow w2.heap.size w3 (.slice sa sn sc) st→StRow W.heap.size ((((((w3.setCell ⟨B,0,none⟩ (.slice sa sn sc)).setCell ⟨B,1,none⟩ (.int .i64 (left:Nat))).setCell ⟨B,2,none⟩ (.int .i64 (eu:Nat))).setCell ⟨B,3,none⟩ (.int .i64 (ev:Nat))).setCell ⟨B,4,none⟩ (.int .i64 (em:Nat))).setCell ⟨B,5,none⟩ (.int .i64 er)) (.slice sa sn sc) st:=fun h =>
    (h.kept fun q cs T hq _ ht=>heap_end6 w3 (jI hq HX3.out (by rcases ht with rfl | rfl <;>decide)) _ _ _ _ _ _).lo HS2.out.2.1.size
   rcases ho3.out with ⟨h1,rfl,rfl,h2,h3⟩ | ⟨st,o,G,h1,rfl,rfl,h2,h3,h4⟩
   ·rw[outc_full Htb.out h1]
    exact⟨sa,sn,sc,eu,ev,em,C3,fv3,fl3,vs3,rfl,hfr2,hrw,hst h2,h3,EOK.zero⟩
   ·rw[outc_ok Htb.out h1]
    exact⟨sa,sn,sc,eu,ev,em,C3,fv3,fl3,vs3,rfl,hfr2,hrw,hst h2,h3,h4⟩
end
section
variable {W:World}
theorem alike_calls {C:List Int}{p:Nat}{fv:Value}{fl:List Value}{vs:List Int}(H:RW C W p fv fl vs){q:Option Addr}{x:Int}(hx:IsN W (.agg #[.pointer q]) x){i:Nat}(hi:vs[i]? = some x):
 Calls Tryz.prog 50 #[.pointer (some ⟨p,0,none⟩),.agg #[.pointer q],.int .i64 (i:Nat)] W fun e W'=>e=.returned (.bool true)∧Hid (Below W.heap.size W W'):=by
 have hA:=fun M=>Bytes_calls (W:=(W.alloc (.cells #[.pointer q] 26)).drewN M) (hx.below (zO W _ M).out)
 have HBy:=jH (fun w (h:Below W.heap.size W w)=>xL (H.below h) hi hx.1)
 have HB0:=jH (fun M=>(zO W (.cells #[.pointer q] 26) M).out)
 clear H hx hi
 go_enter Tryz.func50,Tryz.ntmps50
 go_wp2_with fail
 go_region_law (first
  | (go_simp; go_at_call 37; refine hB2.mono ?_; rintro e2 w2 ⟨v2,rfl,hr2,hb2,-⟩
     have cv3:=zh (hr1.out) (W':=w2) (fun b hb=>hb2.out.block b (jP hr1.out hb))
     have cv2:=zh hr2.out (W':=w2) (fun _ _=>rfl)
     have HBl:=jH (Below.trans' HB1.out hb2.out)
     clear hr2 hb2)
  | (go_simp; go_at_call 69; refine (hA _).mono ?_; rintro e1 w1 ⟨v1,rfl,hr1,hb1,-⟩
     have HB1:=jH (Below.trans' (HB0.out _) hb1.out)
     have hB2:=HBy.out w1 HB1.out
     have cv1:=zh hr1.out (W':=w1) (fun _ _=>rfl)
     clear hb1))
 all_goals
  go_wp2_with fail
  go_ret
  exact⟨by first | rfl | simp,HBl⟩
theorem like_calls {C:List Int}{p:Nat}{fv:Value}{fl:List Value}{vs:List Int}(H:RW C W p fv fl vs){qu qv qm:Option Addr}{x:E3}(hx:IsE W (.agg #[.pointer qu,.pointer qv,.pointer qm]) x){iu iv im:Nat}(hi:AtE vs x iu iv im):
 Calls Tryz.prog 17 #[.pointer (some ⟨p,0,none⟩),.agg #[.pointer qu,.pointer qv,.pointer qm],.agg #[.int .i64 (iu:Nat),.int .i64 (iv:Nat),.int .i64 (im:Nat)]] W fun e W'=>e=.returned (.bool true)∧Hid (Below W.heap.size W W'):=by
 obtain⟨hu,hv,hm⟩:=IsE.parts (t:=(qu,qv,qm)) hx
 obtain⟨W1,hW1,HB1⟩:∃ W1,W1=(W.alloc (.cells #[.pointer qu,.pointer qv,.pointer qm] 28)).alloc (.cells #[.int .i64 (iu:Nat),.int .i64 (iv:Nat),.int .i64 (im:Nat)] 35)∧Hid (Below W.heap.size W W1):=⟨_,rfl,((Below.refl _ W).alloc (jR _) _).alloc (by simp) _⟩
 have hA1:=alike_calls (H.below HB1.out) (hu.below HB1.out) hi.u
 have HAv:=jH (fun w (h:Below W.heap.size W w)=>alike_calls (H.below h) (hv.below h) hi.v)
 have HAm:=jH (fun w (h:Below W.heap.size W w)=>alike_calls (H.below h) (hm.below h) hi.m)
 have HX0:Hid (W1.heap[W.heap.size]? = some (.cells #[.pointer qu,.pointer qv,.pointer qm] 28 (0,0))):=by show _=_; rw[hW1];exact qU W _ _
 have HX1:Hid (W1.heap[W.heap.size+1]? = some (.cells #[.int .i64 (iu:Nat),.int .i64 (iv:Nat),.int .i64 (im:Nat)] 35 (0,0))):=by show _=_; rw[hW1];exact qA W _ _
 rw[hW1] at hA1
 have HW1:=jH hW1
 clear H hx hi hu hv hm hW1
 go_enter Tryz.func17,Tryz.ntmps17
 go_wp2_with fail
 refine hA1.mono ?_
 rintro e w2 ⟨rfl,hb2⟩
 have HB2:=jH (Below.trans' HB1.out (by rw[HW1.out];exact hb2.out))
 have HX2:=jH (Below.here (by rw[HW1.out];exact hb2.out) HX0.out)
 have HY2:=jH (Below.here (by rw[HW1.out];exact hb2.out) HX1.out)
 have hA2:=HAv.out w2 HB2.out
 have x1:w2.cell? ⟨W.heap.size,1,none⟩=some (.pointer qv):=by rw[jB HX2.out];rfl
 have y1:w2.cell? ⟨W.heap.size+1,1,none⟩=some (.int .i64 (iv:Nat)):=by rw[jB HY2.out];rfl
 clear hA1 hb2
 go_wp2_with fail
 refine hA2.mono ?_
 rintro e w3 ⟨rfl,hb3⟩
 have HB3:=jH (Below.trans' HB2.out hb3.out)
 have HX3:=jH (Below.here hb3.out HX2.out)
 have HY3:=jH (Below.here hb3.out HY2.out)
 have hA3:=HAm.out w3 HB3.out
 have x2:w3.cell? ⟨W.heap.size,2,none⟩=some (.pointer qm):=by rw[jB HX3.out];rfl
 have y2:w3.cell? ⟨W.heap.size+1,2,none⟩=some (.int .i64 (im:Nat)):=by rw[jB HY3.out];rfl
 clear hA2 hb3 x1 y1
 go_wp2_with fail
 refine hA3.mono ?_
 rintro e w4 ⟨rfl,hb4⟩
 have HB4:=jH (Below.trans' HB3.out hb4.out)
 clear hA3 hb4
 go_wp2_with fail
 go_ret
 exact⟨rfl,HB4⟩
theorem risUnit_calls {sa:Option Addr}{sn sc left eu ev em:Nat}{er:Int}:
 Calls Tryz.prog 19 #[.agg #[.slice sa sn sc,.int .i64 (left:Nat),.int .i64 (eu:Nat),.int .i64 (ev:Nat),.int .i64 (em:Nat),.int .i64 er]] W fun e W'=>e=.returned (.bool (decide (left=0)&&(decide (eu=0)&&decide (ev=0)&&decide (em=0))))∧Hid (Below W.heap.size W W'):=by
 have HB1:=jH (jV W (.cells #[.slice sa sn sc,.int .i64 (left:Nat),.int .i64 (eu:Nat),.int .i64 (ev:Nat),.int .i64 (em:Nat),.int .i64 er] 37)).out
 go_enter Tryz.func19,Tryz.ntmps19
 by_cases h0:left=0
 ·subst h0
  clear HB1
  go_wp2_with fail
  all_goals
   go_ret
   exact⟨by first | rfl | simp_all,jV W _⟩
 ·have h1:¬ ((left:Int)=0):=by omega
  have h2:decide ((left:Int)=0)=false:=by simpa using h1
  have h3:((left:Int)==0)=false:=by simpa using h1
  go_wp2_with fail
  go_ret
  refine⟨?_,HB1⟩
  exact yp (by simp[h0])
end
end Sr
namespace Sr
def wdL (n:UInt8): List UInt8:=if n.toNat % 4=0 then [97] else if n.toNat % 4=1 then [65] else if n.toNat % 4=2 then [98,97,66] else [98,65,66]
def elL (n:UInt8): E3:=if n.toNat % 4=0 then ⟨1,0,0⟩ else if n.toNat % 4=1 then ⟨-1,0,0⟩ else if n.toNat % 4=2 then ⟨0,0,1⟩ else ⟨0,0,-1⟩
def prodE (L:List UInt8): E3:=L.foldl (fun x n=>timesE x (elL n)) Zero
def wordL (L:List UInt8): List UInt8:=L.flatMap wdL
theorem prodE_snoc (L:List UInt8)(n:UInt8): prodE (L++[n])=timesE (prodE L) (elL n):=by simp[prodE]
def gr (n0:Int): List (Int×Int)→List E3
 | []=>[powA n0]
 | (s,n)::R=>gr n0 R++[powA s,powA n]
def og:List (Int×Int)→List UInt8
 | []=>[]
 | _::R=>og R++[98,66]
def pr (n0:Int): List (Int×Int)→E3
 | []=>powA n0
 | (s,n)::R=>timesE (timesE (pr n0 R) ⟨0,0,s⟩) (powA n)
def sz (n0:Int): List (Int×Int)→Nat
 | []=>n0.natAbs
 | (_,n)::R=>sz n0 R+1+n.natAbs
theorem rd_last (o:List UInt8)(H:List E3)(x:E3): rdStep (o,H++[x]) 97=(o,H++[timesE x ⟨1,0,0⟩]):=by
 unfold rdStep; rw[if_pos rfl];dsimp only
 have e:(H++[x]).length - 1=H.length:=by simp
 rw[e,jo (x:=x) (by simp)]
 simp
theorem rd_lastA (o:List UInt8)(H:List E3)(x:E3): rdStep (o,H++[x]) 65=(o,H++[timesE x ⟨-1,0,0⟩]):=by
 unfold rdStep; rw[if_neg (by decide),if_pos rfl];dsimp only
 have e:(H++[x]).length - 1=H.length:=by simp
 rw[e,jo (x:=x) (by simp)]
 simp
theorem rd_b (o:List UInt8)(G:List E3): rdStep (o,G) 98=(o++[98],G++[Zero]):=rfl
theorem rd_B (o:List UInt8)(G:List E3): rdStep (o,G) 66=(o++[66],G++[Zero]):=rfl
theorem gr_last (n0:Int)(R:List (Int×Int)): ∃ H n,gr n0 R=H++[powA n]:=by
 cases R with
 | nil=>exact⟨[],n0,rfl⟩
 | cons p R=>obtain⟨s,n⟩:=p; exact⟨gr n0 R++[powA s],n,by simp[gr]⟩
theorem step_a (n0:Int)(R:List (Int×Int))(s:Int)(hs:s=1∨s = -1): ∃ n0' R',(∀ H x,gr n0 R=H++[x]→gr n0' R'=H++[timesE x ⟨s,0,0⟩])∧og R'=og R∧pr n0' R'=timesE (pr n0 R) ⟨s,0,0⟩∧sz n0' R'≤sz n0 R+1∧R'.length=R.length∧((∀ p∈R,p.1=1∨p.1 = -1)→∀ p∈R',p.1=1∨p.1 = -1):=by
 have h1:s.natAbs=1:=by rcases hs with rfl | rfl <;>rfl
 cases R with
 | nil =>
   refine⟨n0+s,[],fun H x h=>?_,rfl,(ze n0 s hs).symm,?_,rfl,fun h=>h⟩
   ·have:=List.append_inj' (s₁:=[]) (t₁:=[powA n0]) (s₂:=H) (t₂:=[x]) h (by simp)
    obtain⟨rfl,h2⟩:=this
    cases h2
    simp only[gr,List.nil_append];rw[ze n0 s hs]
   ·simp only[sz];omega
 | cons p R =>
   obtain⟨t,n⟩:=p
   refine⟨n0,(t,n+s)::R,fun H x h=>?_,rfl,?_,?_,rfl,fun h p hp=>?_⟩
   ·have e:gr n0 ((t,n)::R)=(gr n0 R++[powA t])++[powA n]:=by simp[gr]
    rw[e] at h
    obtain⟨rfl,h2⟩:=List.append_inj' h (by simp)
    cases h2
    simp only[gr];rw[ze n s hs];simp
   ·simp only[pr];rw[← ze n s hs,← timesE_assoc]
   ·simp only[sz];omega
   ·rcases List.mem_cons.1 hp with rfl | hp
    ·exact h (t,n) (by simp)
    ·exact h p (List.mem_cons_of_mem _ hp)
theorem step_t (n0:Int)(R:List (Int×Int))(s:Int): gr n0 ((s,0)::R)=gr n0 R++[powA s]++[Zero]∧pr n0 ((s,0)::R)=timesE (pr n0 R) ⟨0,0,s⟩:=by
 refine⟨by simp[gr,powA_zero],?_⟩
 simp only[pr];rw[powA_zero];exact timesE_one (qH _ _)
def tcount (L:List UInt8): Nat:=(L.filter fun n=>2≤n.toNat % 4).length
theorem tcount_snoc (L:List UInt8)(n:UInt8): tcount (L++[n])=tcount L+if 2≤n.toNat % 4 then 1 else 0:=by
 unfold tcount; rw[List.filter_append,List.length_append]
 congr 1
 by_cases h:2≤n.toNat % 4 <;>simp[h]
theorem read_inner:∀ (k:Nat) (L:List UInt8),L.length=k→∃ n0 R,readE (wordL L)=(og R,gr n0 R)∧prodE L=pr n0 R∧sz n0 R≤L.length∧R.length=tcount L∧∀ p∈R,p.1=1∨p.1 = -1
 | 0,L,h=>by
   have:L=[]:=List.length_eq_zero_iff.1 h
   subst this
   exact⟨0,[],rfl,rfl,by simp[sz],rfl,fun p hp=>by simp at hp⟩
 | k+1,L,h=>by
   have hne:L≠[]:=by intro e; subst e; simp at h
   obtain⟨M,c,rfl⟩:∃ M c,L=M++[c]:=⟨L.dropLast,L.getLast hne,(List.dropLast_concat_getLast hne).symm⟩
   obtain⟨n0,R,h1,h2,h3,h4,h5⟩:=read_inner k M (by simp at h; omega)
   have hw:readE (wordL (M++[c]))=(wdL c).foldl rdStep (readE (wordL M)):=by simp[readE,wordL,List.flatMap_append,List.foldl_append]
   have hl:(M++[c]).length=M.length+1:=by simp
   obtain⟨H,n,hg⟩:=gr_last n0 R
   rw[hw,h1,prodE_snoc,h2,tcount_snoc,← h4,hl]
   unfold wdL elL
   by_cases c0:c.toNat % 4=0
   ·rw[if_pos c0,if_pos c0,if_neg (show ¬ 2≤c.toNat % 4 by omega)]
    obtain⟨n0',R',k1,k2,k3,k4,k5,k6⟩:=step_a n0 R 1 (.inl rfl)
    refine⟨n0',R',?_,k3.symm,by omega,by omega,k6 h5⟩
    show rdStep (og R,gr n0 R) 97=_
    rw[hg,rd_last,k1 _ _ hg,k2]
   ·rw[if_neg c0,if_neg c0]
    by_cases c1:c.toNat % 4=1
    ·rw[if_pos c1,if_pos c1,if_neg (show ¬ 2≤c.toNat % 4 by omega)]
     obtain⟨n0',R',k1,k2,k3,k4,k5,k6⟩:=step_a n0 R (-1) (.inr rfl)
     refine⟨n0',R',?_,k3.symm,by omega,by omega,k6 h5⟩
     show rdStep (og R,gr n0 R) 65=_
     rw[hg,rd_lastA,k1 _ _ hg,k2]
    ·rw[if_neg c1,if_neg c1,if_pos (show 2≤c.toNat % 4 by omega)]
     have fin:∀ s:Int,s=1∨s = -1→∃ n0' R',(og R++[98]++[66],gr n0 R++[timesE Zero ⟨s,0,0⟩]++[Zero])=(og R',gr n0' R')∧timesE (pr n0 R) ⟨0,0,s⟩=pr n0' R'∧sz n0' R'≤M.length+1∧R'.length=R.length+1∧∀ p∈R',p.1=1∨p.1 = -1:=fun s hs=>by
      refine⟨n0,(s,0)::R,?_,(step_t n0 R s).2.symm,by simp only[sz];simp; omega,rfl,fun p hp=>?_⟩
      ·rw[(step_t n0 R s).1]
       have:timesE Zero ⟨s,0,0⟩=powA s:=by have:=ze 0 s hs; rw[powA_zero,Int.zero_add] at this; exact this
       rw[this];simp[og]
      ·rcases List.mem_cons.1 hp with rfl | hp
       ·exact hs
       ·exact h5 p hp
     by_cases c2:c.toNat % 4=2
     ·rw[if_pos c2,if_pos c2]
      obtain⟨n0',R',k1,k2,k3,k4,k5⟩:=fin 1 (.inl rfl)
      refine⟨n0',R',?_,k2,k3,k4,k5⟩
      show rdStep (rdStep (rdStep (og R,gr n0 R) 98) 97) 66=_
      rw[rd_b,rd_last,rd_B];exact k1
     ·rw[if_neg c2,if_neg c2]
      obtain⟨n0',R',k1,k2,k3,k4,k5⟩:=fin (-1) (.inr rfl)
      refine⟨n0',R',?_,k2,k3,k4,k5⟩
      show rdStep (rdStep (rdStep (og R,gr n0 R) 98) 65) 66=_
      rw[rd_b,rd_lastA,rd_B];exact k1
theorem powA_lat (n:Int): Lat n.natAbs (powA n):=by
 refine lat_plain (by simp) (fun _=>by omega) fun _=>?_
 have:((0:Int)+(n.natAbs:Int)).toNat=n.natAbs:=by omega
 rw[this]
 exact Nat.mul_le_mul_left _ (Nat.pow_le_pow_left (by omega) _)
theorem powA_v (n:Int): 0≤(powA n).v:=by
 unfold powA plainE; split
 ·simp
 ·show 0≤0+(lowE n:Int);omega
theorem powA_shx (n:Int): shx (powA n).u (powA n).v=n:=by
 unfold powA plainE
 split
 ·rename_i h; subst h
  show shx 0 ((0:Nat):Int)=0
  rw[shx_nat];simp
 ·show shx (shx n (-(lowE n:Int))) (0+(lowE n:Int))=n
  have:(0+(lowE n:Int)) = -(-(lowE n:Int)):=by omega
  rw[this];exact shx_back zo
def pwr:List (Int×Int)→List E3:=fun T=>T.flatMap fun p=>[powA p.1,powA p.2]
def pwo:List (Int×Int)→List UInt8:=fun T=>T.flatMap fun _=>[98,66]
def sz2:List (Int×Int)→Nat
 | []=>0
 | p::T=>1+p.2.natAbs+sz2 T
theorem red_inner:∀ (T:List (Int×Int)) (g0:E3) (k:Nat),Lat k g0→k+sz2 T≤110→(∀ p∈T,p.1=1∨p.1 = -1)→∃ st,redE (pwo T) (g0::pwr T) 0=some (st,[],[T.foldl (fun x p=>timesE (timesE x ⟨0,0,p.1⟩) (powA p.2)) g0])∧st.length=T.length
 | [],g0,k,_,_,_=>⟨[],zU (by simp[pwo]),rfl⟩
 | (s,n)::T,g0,k,hl,hk,hs=>by
   have hs1:s=1∨s = -1:=hs (s,n) (by simp)
   have ho:pwo ((s,n)::T)=98::66::pwo T:=rfl
   have hg:pwr ((s,n)::T)=powA s::powA n::pwr T:=rfl
   rw[ho,hg]
   have h1:0+1<(98::66::pwo T).length:=by simp
   have hx1:(g0::powA s::powA n::pwr T).getD (0+1) Zero=powA s:=rfl
   have hx2:(g0::powA s::powA n::pwr T).getD (0+2) Zero=powA n:=rfl
   have hx0:(g0::powA s::powA n::pwr T).getD 0 Zero=g0:=rfl
   have ho0:(98::66::pwo T).getD 0 (0:UInt8)=98:=rfl
   have ho1:(98::66::pwo T).getD (0+1) (0:UInt8)=66:=rfl
   have hp:pinAt (98::66::pwo T) (g0::powA s::powA n::pwr T) 0=true:=by
    unfold pinAt; rw[ho0,ho1,hx1]
    unfold pinB; rw[if_pos rfl]
    simp only[powA_m,powA_v,or_true,and_self,decide_true,Bool.and_true]
    decide
   have hK:pinK (98::66::pwo T) (g0::powA s::powA n::pwr T) 0=s:=by
    unfold pinK; rw[ho0,hx1];unfold powE; rw[if_pos rfl];exact powA_shx s
   have hE:pinE 98 s=⟨0,0,s⟩:=by unfold pinE; rw[if_neg (by decide)]
   have hz:sz2 ((s,n)::T)=1+n.natAbs+sz2 T:=rfl
   rw[hz] at hk
   obtain⟨ok1,l1⟩:=lat_times hl (lat_t s hs1) (by omega)
   obtain⟨ok2,l2⟩:=lat_times l1 (powA_lat n) (by omega)
   have hA:pinA (98::66::pwo T) (g0::powA s::powA n::pwr T) 0:=by
    unfold pinA; rw[hK,ho0,hx0,hx2]
    refine⟨qC (by rcases hs1 with rfl | rfl <;>simp),fun h=>absurd h (by decide),?_,?_⟩
    ·rw[hE];exact ok1
    ·rw[hE];exact ok2
   have hG:pinG (98::66::pwo T) (g0::powA s::powA n::pwr T) 0=timesE (timesE g0 ⟨0,0,s⟩) (powA n)::pwr T:=by
    unfold pinG; rw[hK,ho0,hx0,hx2];unfold pinX; rw[hE];rfl
   have hO:pinO (98::66::pwo T) 0=pwo T:=rfl
   obtain⟨st,h2,h3⟩:=red_inner T _ _ l2 (by omega) fun p hp=>hs p (List.mem_cons_of_mem _ hp)
   refine⟨(0,s)::st,?_,by simp[h3]⟩
   rw[redE_yes h1 hp hA,hK,hO,hG]
   show Option.map _ (redE _ _ 0)=_
   rw[h2];rfl
theorem gr_front (n0:Int): ∀ R,gr n0 R=powA n0::pwr R.reverse
 | []=>rfl
 | (s,n)::R=>by
   rw[gr,gr_front n0 R];simp[pwr,List.flatMap_append]
theorem og_front:∀ R,og R=pwo R.reverse
 | []=>rfl
 | p::R=>by rw[og,og_front R];simp[pwo,List.flatMap_append]
theorem pr_front (n0:Int): ∀ R,R.reverse.foldl (fun x p=>timesE (timesE x ⟨0,0,p.1⟩) (powA p.2)) (powA n0)=pr n0 R
 | []=>rfl
 | (s,n)::R=>by
   rw[List.reverse_cons,List.foldl_append,pr_front n0 R];rfl
theorem sz2_append:∀ a b,sz2 (a++b)=sz2 a+sz2 b
 | [],b=>by simp[sz2]
 | p::a,b=>by simp only[List.cons_append,sz2,sz2_append a b];omega
theorem sz_front (n0:Int): ∀ R,sz n0 R=n0.natAbs+sz2 R.reverse
 | []=>by simp[sz,sz2]
 | (s,n)::R=>by
   rw[sz,sz_front n0 R,List.reverse_cons,sz2_append];simp only[sz2];omega
theorem inner_law (L:List UInt8)(hL:L.length≤100): ∃ st,traceE (wordL L)=some (st,[],[prodE L])∧st.length=tcount L:=by
 obtain⟨n0,R,h1,h2,h3,h4,h5⟩:=read_inner L.length L rfl
 rw[sz_front] at h3
 obtain⟨st,h6,h7⟩:=red_inner R.reverse (powA n0) n0.natAbs (powA_lat n0) (by omega) (fun p hp=>h5 p (by simpa using hp))
 refine⟨st,?_,by rw[h7];simp[h4]⟩
 unfold traceE
 rw[h1,og_front,gr_front,h6,pr_front,h2]
end Sr
