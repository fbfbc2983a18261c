/- Texts of this claim, joined: RMul, RPd, REp, RPin, RMulP, RMkP. -/
import Derived.Test.YtabafgphmbdpgaaGreatDoorTe1
import Derived.Test.YtabafgphmbdpgaaGreatDoorTe22
import Derived.Test.YtabafgphmbdpgaaGreatDoorTe23
import Derived.Test.YtabafgphmbdpgaaGreatDoorTe25
import Derived.Test.YtabafgphmbdpgaaGreatDoorTe36
import Derived.Deep.QuietTactic
import Derived.BigQuiet
import Derived.IntWalk
set_option maxHeartbeats 8000000
set_option maxRecDepth 100000
namespace Sr
open Go Go.Proofs Go.RowKit Go.Maps Go.WideMaps
def RNQ (b:Nat)(W:World)(c p:Nat)(fv:Value)(fl:List Value)(vs:List Int)(full:Bool)(z:Int)(e:Ending)(W':World): Prop :=
 ∃ (q:Nat) (fv':Value) (fl':List Value) (vs':List Int),e=.returned (.int .i64 (q:Nat))∧Hid (RK b W W' c p fv fv' fl fl' vs vs' full)∧Hid (vs'[q]? = some z)
section
variable {b k:Nat} {W:World} {c p:Nat} {fv:Value} {fl:List Value} {vs:List Int} {full:Bool} {i j:Nat} {x y:Int} {n m a b1:Nat}
theorem zq (H:RC b W c p fv fl vs full)(hi:vs[i]? = some x)(hj:vs[j]? = some y)(hx:Sz n a b1 x)(hy:Sz m a b1 y)(hnm:n+m≤2600)(ha:a≤1286)(hk:(sumAsk 0 (form x++form y)).length≤k)(hbk:b+k≤5000000000000):
 Calls Tryz.prog 83 #[.pointer (some ⟨p,0,none⟩),.int .i64 (i:Nat),.int .i64 (j:Nat)] W (RNQ (b+k) W c p fv fl vs full (x+y)):=by
 obtain⟨C,hC,hw⟩:=H.rw
 have hw2:=hw.weaken (C':=C++sumAsk 0 (form x++form y)) (fun v hv=>.inl (List.mem_append.2 (.inl hv))) (by rw[List.length_append];omega)
 refine (rAdd_calls hw2 hi hj (hx.mono (jR _) (jR _) (show b1≤b1+14 by omega)) (hy.mono (jR _) (jR _) (show b1≤b1+14 by omega)) hnm ha (by omega) (fun z hz=>List.mem_append.2 (.inr hz))).mono ?_
 rintro e w1 ⟨q,fv',fl',vs',h1,h2,h3⟩
 exact⟨q,fv',fl',vs',h1,H.put h2.out (by rw[List.length_append];omega),h3⟩
theorem cSub_calls (H:RC b W c p fv fl vs full)(hi:vs[i]? = some x)(hj:vs[j]? = some y)(hx:Sz n a b1 x)(hy:Sz m a b1 y)(hnm:n+m≤2600)(ha:a≤1286)(hk:(-y::sumAsk 0 (form x++form (-y))).length≤k)(hbk:b+k≤5000000000000):
 Calls Tryz.prog 85 #[.pointer (some ⟨p,0,none⟩),.int .i64 (i:Nat),.int .i64 (j:Nat)] W (RNQ (b+k) W c p fv fl vs full (x - y)):=by
 obtain⟨C,hC,hw⟩:=H.rw
 have hw2:=hw.weaken (C':=C++(-y::sumAsk 0 (form x++form (-y)))) (fun v hv=>.inl (List.mem_append.2 (.inl hv))) (by rw[List.length_append];omega)
 refine (rSub_calls hw2 hi hj (hx.mono (jR _) (jR _) (show b1≤b1+14 by omega)) (hy.mono (jR _) (jR _) (show b1≤b1+14 by omega)) hnm ha (by omega) (fun z hz=>List.mem_append.2 (.inr hz))).mono ?_
 rintro e w1 ⟨q,fv',fl',vs',h1,h2,h3⟩
 exact⟨q,fv',fl',vs',h1,H.put h2.out (by rw[List.length_append];omega),h3⟩
theorem cCmp_calls (H:RC b W c p fv fl vs full)(hi:vs[i]? = some x)(hj:vs[j]? = some y):
 Calls Tryz.prog 84 #[.pointer (some ⟨p,0,none⟩),.int .i64 (i:Nat),.int .i64 (j:Nat)] W fun e W'=>e=.returned (.int .i64 (isg (x - y)))∧∃ m,W'=W.drewN m:=by
 obtain⟨C,_,hw⟩:=H.rw
 exact yO hw hi hj
theorem zv (hx:(form x).length≤n)(hy:(form y).length≤m): (sumAsk 0 (form x++form y)).length≤(n+m)*(4*(n+m)+3)+1:=by
 have h:=sumAsk_len (n+m) (form x++form y) 0 (by rw[j5,List.length_append];simp; omega)
 have h1:(form x++form y).length≤n+m:=by rw[List.length_append];omega
 exact Nat.le_trans h (Nat.add_le_add_right (Nat.mul_le_mul_right _ h1) _)
end
structure AtE (vs:List Int)(x:E3)(iu iv im:Nat): Prop where
 u:vs[iu]? = some x.u
 v:vs[iv]? = some x.v
 m:vs[im]? = some x.m
theorem AtE.ext {vs vs':List Int}{x:E3}{iu iv im:Nat}(h:AtE vs x iu iv im)(k:vs <+: vs'): AtE vs' x iu iv im:=⟨jW k h.u,jW k h.v,jW k h.m⟩
structure MS (b:Nat)(W:World)(c p:Nat)(fv:Value)(fl:List Value)(vs:List Int)(full:Bool)(bx bY:Nat)(x y:E3)(iu iv im ju jv jm:Nat): Prop where
 rc:RC b W c p fv fl vs full
 ax:AtE vs x iu iv im
 ay:AtE vs y ju jv jm
 bx:W.heap[bx]? = some (.cells #[.int .i64 (iu:Nat),.int .i64 (iv:Nat),.int .i64 (im:Nat)] 35 (0,0))
 bY:W.heap[bY]? = some (.cells #[.int .i64 (ju:Nat),.int .i64 (jv:Nat),.int .i64 (jm:Nat)] 35 (0,0))
section
variable {b b':Nat} {W W':World} {c p:Nat} {fv fv':Value} {fl fl':List Value} {vs vs':List Int} {full full':Bool} {bx bY:Nat} {x y:E3} {iu iv im ju jv jm:Nat}
theorem MS.below (h:MS b W c p fv fl vs full bx bY x y iu iv im ju jv jm)(hb:Below W.heap.size W W'): MS b W' c p fv fl vs full bx bY x y iu iv im ju jv jm :=
 ⟨h.rc.below hb,h.ax,h.ay,(hb.block _ (jA h.bx).1).trans h.bx,(hb.block _ (jA h.bY).1).trans h.bY⟩
theorem MS.put (h:MS b W c p fv fl vs full bx bY x y iu iv im ju jv jm)(k:RK b' W W' c p fv fv' fl fl' vs vs' full'): MS b' W' c p fv' fl' vs' full' bx bY x y iu iv im ju jv jm :=
 ⟨k.rc,h.ax.ext k.ext,h.ay.ext k.ext,jd h.rc k h.bx (by decide) (by decide) (by decide),jd h.rc k h.bY (by decide) (by decide) (by decide)⟩
def MCell (c p bx bY iu iv im ju jv jm:Nat)(w:World): Prop :=
 w.cell? ⟨c,0,none⟩=some (.pointer (some ⟨p,0,none⟩))∧(w.cell? ⟨bx,0,none⟩=some (.int .i64 (iu:Nat))∧w.cell? ⟨bx,1,none⟩=some (.int .i64 (iv:Nat))∧w.cell? ⟨bx,2,none⟩=some (.int .i64 (im:Nat))) ∧
  w.cell? ⟨bY,0,none⟩=some (.int .i64 (ju:Nat))∧w.cell? ⟨bY,1,none⟩=some (.int .i64 (jv:Nat))∧w.cell? ⟨bY,2,none⟩=some (.int .i64 (jm:Nat))
theorem MS.cells (h:MS b W c p fv fl vs full bx bY x y iu iv im ju jv jm): MCell c p bx bY iu iv im ju jv jm W :=
 ⟨h.rc.c0,⟨by rw[jB h.bx];rfl,by rw[jB h.bx];rfl,by rw[jB h.bx];rfl⟩,by rw[jB h.bY];rfl,by rw[jB h.bY];rfl,by rw[jB h.bY];rfl⟩
end
section
abbrev N3:=Nat×Nat×Nat
def nv (t:N3): Value:=.agg #[.int .i64 (t.1:Nat),.int .i64 (t.2.1:Nat),.int .i64 (t.2.2:Nat)]
def ncl3 (t:N3): List Value:=[.int .i64 (t.1:Nat),.int .i64 (t.2.1:Nat),.int .i64 (t.2.2:Nat)]
def ncl (l:List N3): List Value:=l.flatMap ncl3
theorem ncl_len (l:List N3): (ncl l).length=l.length*3:=by
 induction l with
 | nil=>rfl
 | cons t l ih=>simp only[ncl,List.flatMap_cons,List.length_append,List.length_cons,ncl3,List.length_nil] at *;omega
theorem ncl_append (a b:List N3): ncl (a++b)=ncl a++ncl b:=by simp[ncl]
theorem ncl_cons (t:N3)(l:List N3): ncl (t::l)=ncl3 t++ncl l:=rfl
theorem ncl_one (l:List N3): ∀ u∈ncl l,u.oneCell'=true:=by
 intro u hu
 obtain⟨t,_,hu⟩:=List.mem_flatMap.1 hu
 simp[ncl3] at hu
 rcases hu with rfl | rfl | rfl <;>rfl
theorem ncl_get:∀ {l:List N3} {k:Nat} {t:N3},l[k]? = some t→(ncl l)[k*3]? = some (.int .i64 (t.1:Nat))∧(ncl l)[k*3+1]? = some (.int .i64 (t.2.1:Nat))∧(ncl l)[k*3+2]? = some (.int .i64 (t.2.2:Nat))
 | [],_,_,h=>by simp at h
 | u::l,0,t,h=>by simp at h; subst h; simp[ncl,ncl3]
 | u::l,k+1,t,h=>by
   have:=ncl_get (l:=l) (k:=k) (t:=t) (by simpa using h)
   have hl:(ncl3 u).length=3:=rfl
   rw[ncl_cons,List.getElem?_append_right (by omega),List.getElem?_append_right (by omega),List.getElem?_append_right (by omega)]
   rw[show (k+1)*3 - (ncl3 u).length=k*3 by omega,show (k+1)*3+1 - (ncl3 u).length=k*3+1 by omega,show (k+1)*3+2 - (ncl3 u).length=k*3+2 by omega];exact this
theorem ncl_take (l:List N3)(k:Nat): (ncl l).take (k*3)=ncl (l.take k):=by
 induction k generalizing l with
 | zero=>simp[ncl]
 | succ k ih=>cases l with
   | nil=>simp[ncl]
   | cons t l =>
     have hl:(ncl3 t).length=3:=rfl
     rw[ncl_cons,List.take_succ_cons,ncl_cons,← ih,List.take_append,List.take_of_length_le (by omega),show (k+1)*3 - (ncl3 t).length=k*3 by omega]
theorem ncl_drop (l:List N3)(k:Nat): (ncl l).drop (k*3)=ncl (l.drop k):=by
 induction k generalizing l with
 | zero=>simp
 | succ k ih=>cases l with
   | nil=>simp[ncl]
   | cons t l =>
     have hl:(ncl3 t).length=3:=rfl
     rw[ncl_cons,List.drop_succ_cons,← ih,List.drop_append,List.drop_of_length_le (by omega),show (k+1)*3 - (ncl3 t).length=k*3 by omega];simp
def AtL (vs:List Int)(l:List N3)(G:List E3): Prop:=l.length=G.length∧∀ (i:Nat) (t:N3) (x:E3),l[i]? = some t→G[i]? = some x→AtE vs x t.1 t.2.1 t.2.2
theorem AtL.ext {vs vs':List Int}{l:List N3}{G:List E3}(h:AtL vs l G)(k:vs <+: vs'): AtL vs' l G:=⟨h.1,fun i t x h1 h2=>(h.2 i t x h1 h2).ext k⟩
theorem AtL.nil (vs:List Int): AtL vs [] []:=⟨rfl,fun _ _ _ h=>by simp at h⟩
variable {vs vs':List Int} {l:List N3} {G:List E3} {b lo:Nat} {W:World} {gv:Value}
theorem AtL.app {l':List N3}{G':List E3}(h:AtL vs l G)(k:AtL vs l' G'): AtL vs (l++l') (G++G'):=by
 refine⟨by rw[List.length_append,List.length_append,h.1,k.1],fun i t x h1 h2=>?_⟩
 by_cases hi:i<l.length
 ·rw[List.getElem?_append_left hi] at h1
  rw[List.getElem?_append_left (by rw[← h.1];exact hi)] at h2
  exact h.2 i t x h1 h2
 ·rw[List.getElem?_append_right (by omega)] at h1
  rw[List.getElem?_append_right (by rw[← h.1];omega),← h.1] at h2
  exact k.2 _ t x h1 h2
theorem AtL.one {x:E3}{a c:Nat}(h:AtE vs x a b c): AtL vs [(a,b,c)] [x]:=⟨rfl,fun i t y h1 h2=>by
 cases i with
 | zero=>simp at h1 h2; subst h1; subst h2; exact h
 | succ i=>simp at h1⟩
theorem AtL.take {vs:List Int}{l:List N3}{G:List E3}(h:AtL vs l G)(k:Nat): AtL vs (l.take k) (G.take k):=by
 refine⟨by rw[List.length_take,List.length_take,h.1],fun i t x h1 h2=>?_⟩
 rw[List.getElem?_take] at h1 h2
 split at h1
 ·rename_i hk; rw[if_pos hk] at h2; exact h.2 i t x h1 h2
 ·exact absurd h1 (by simp)
theorem AtL.drop {vs:List Int}{l:List N3}{G:List E3}(h:AtL vs l G)(k:Nat): AtL vs (l.drop k) (G.drop k):=by
 refine⟨by rw[List.length_drop,List.length_drop,h.1],fun i t x h1 h2=>?_⟩
 rw[List.getElem?_drop] at h1 h2
 exact h.2 _ t x h1 h2
structure PR (lo:Nat)(W:World)(vs:List Int)(gv:Value)(l:List N3)(G:List E3): Prop where
 row:W.ownsRow 0 35 3 gv l.length (ncl l)
 at_:AtL vs l G
 hg:∀ b,gv.ownBlock=some b→lo≤b
theorem PR.below {W':World}(h:PR lo W vs gv l G)(hb:Below W.heap.size W W'): PR lo W' vs gv l G:=⟨zJ h.row hb,h.at_,h.hg⟩
theorem PR.ext {lo:Nat}{W:World}{vs vs':List Int}{gv:Value}{l:List N3}{G:List E3}(h:PR lo W vs gv l G)(k:vs <+: vs'): PR lo W vs' gv l G:=⟨h.row,h.at_.ext k,h.hg⟩
theorem PR.el (h:PR lo W vs gv l G){i:Nat}{x:E3}(hi:G[i]? = some x):
 ∃ (g cap iu iv im:Nat),gv=.slice (some ⟨g,0,none⟩) G.length cap∧l[i]? = some (iu,iv,im)∧AtE vs x iu iv im∧W.cell? ⟨g,i*3,none⟩=some (.int .i64 (iu:Nat))∧W.cell? ⟨g,i*3+1,none⟩=some (.int .i64 (iv:Nat))∧W.cell? ⟨g,i*3+2,none⟩=some (.int .i64 (im:Nat)):=by
 have hlt:=(jL hi).1
 have hl:=h.at_.1
 obtain⟨g,cap,e,-,-⟩:=zr h.row (by omega)
 obtain⟨t,ht⟩:∃ t,l[i]? = some t:=⟨l[i],jG (by omega)⟩
 obtain⟨iu,iv,im⟩:=t
 have hr:=h.row
 rw[e] at hr
 have hq:=ncl_get ht
 exact⟨g,cap,iu,iv,im,by rw[e,hl],ht,h.at_.2 i _ x ht hi,y5 hr hq.1,y5 hr hq.2.1,y5 hr hq.2.2⟩
theorem jl {e:TypeId}{s n:Nat}{v:Value}{xs:List Value}(h:W.ownsRow 0 e s v n xs)(hb:v.ownBlock=some b): ∃ cs,W.heap[b]? = some (.cells cs e (0,0)):=by
 obtain⟨hl,⟨rfl,h0⟩ | ⟨g',cap',cur,rfl,h00,hg,h1,h2,h3,hx⟩⟩:=h
 ·simp[Value.ownBlock] at hb
 ·simp[Value.ownBlock] at hb; subst hb; exact⟨_,hg⟩
theorem qP {w:World}{e:TypeId}{s n:Nat}{v:Value}{xs:List Value}(h:W.ownsRow 0 e s v n xs)(hb:∀ b,v.ownBlock=some b→w.heap[b]? = W.heap[b]?): w.ownsRow 0 e s v n xs:=by
 obtain⟨hl,⟨h1,h0⟩ | ⟨g',cap',cur,rfl,h00,hg,h1,h2,h3,hx⟩⟩:=h
 ·exact⟨hl,.inl ⟨h1,h0⟩⟩
 ·exact⟨hl,.inr ⟨_,_,_,rfl,h00,(hb _ (by simp[Value.ownBlock])).trans hg,h1,h2,h3,hx⟩⟩
theorem PR.rk {b':Nat}{W':World}{c p:Nat}{fv fv':Value}{fl fl':List Value}{full full':Bool}(h:PR lo W vs gv l G)(H:RC b W c p fv fl vs full)(k:RK b' W W' c p fv fv' fl fl' vs vs' full'): PR lo W' vs' gv l G:=by
 refine⟨qP h.row fun q hq=>?_,h.at_.ext k.ext,h.hg⟩
 obtain⟨cs,hc⟩:=jl h.row hq
 rw[hc];exact jd H k hc (by decide) (by decide) (by decide)
end
section
theorem info35:(Tryz.prog.info? 35).map (fun i=>(i.zero,i.size,i.bytes))=some (some (.agg #[.int .i64 0,.int .i64 0,.int .i64 0]),3,24):=by kernel_rfl
theorem un76:Tryz.prog.underlying 76=some (.slice 35):=by kernel_rfl
def NRow (W:World)(v:Value)(l:List N3): Prop:=W.ownsRow 0 35 3 v l.length (ncl l)
def NSrc (W:World)(x:Value)(l:List N3): Prop:=(l=[]∧x=.slice none 0 0)∨∃ ad c,x=.slice (some ad) l.length c∧∀ (j:Nat) (u:Value),(ncl l)[j]? = some u→W.cell? (ad.add j)=some u
variable {v:Value} {l:List N3}
theorem NRow.srcs {W:World}(h:NRow W v l): ∃ a c,v=.slice a l.length c∧l.length≤c∧c≤9223372036854775807∧NSrc W v l ∧
 (a=none→l=[]∧c=0)∧∀ g,a=some g→g.spot=none∧g.off=0∧(∀ k,k≤l.length→NSrc W (.slice a k c) (l.take k)) ∧
   ∀ k,k≤l.length→NSrc W (.slice (if c=k then some g else some ⟨g.block,k*3,none⟩) (l.length - k) (c - k)) (l.drop k):=by
 obtain⟨h1,⟨rfl,h2⟩ | ⟨g,cap,cur,rfl,_,h4,h5,h6,h7,h8⟩⟩:=h
 ·have:l=[]:=List.length_eq_zero_iff.1 h2
  subst this
  exact⟨_,_,rfl,by simp,by omega,.inl ⟨rfl,rfl⟩,fun _=>⟨rfl,rfl⟩,fun g h=>by cases h⟩
 ·have hget:∀ (j:Nat) (u:Value),(ncl l)[j]? = some u→W.cell? ⟨g,j,none⟩=some u:=fun j u hu=>by
   have hj:=(jL hu).1
   rw[← h8,List.getElem?_take_of_lt (by omega),Array.getElem?_toList,← jB h4] at hu
   exact hu
  refine⟨_,_,rfl,h5,by simpa [maxLen] using h6,.inr ⟨_,_,rfl,fun j u hu=>by rw[Addr.add_lit];simpa using hget j u hu⟩,(fun h=>by cases h),fun g' hg=>?_⟩
  cases hg
  refine⟨rfl,rfl,fun k hk=>.inr ⟨⟨g,0,none⟩,cap,?_,fun j u hu=>?_⟩,fun k hk=>.inr ?_⟩
  ·rw[List.length_take,Nat.min_eq_left hk]
  ·rw[← ncl_take] at hu
   have hj:j<k*3:=by have:=(jL hu).1; rw[List.length_take] at this; omega
   rw[List.getElem?_take_of_lt hj] at hu
   rw[Addr.add_lit];simpa using hget j u hu
  ·by_cases hc:cap=k
   ·have hkl:k=l.length:=by omega
    rw[if_pos hc]
    refine⟨⟨g,0,none⟩,cap - k,by rw[List.length_drop],fun j u hu=>?_⟩
    rw[List.drop_eq_nil_of_le (by omega)] at hu
    simp[ncl] at hu
   ·rw[if_neg hc]
    refine⟨⟨g,k*3,none⟩,cap - k,by rw[List.length_drop],fun j u hu=>?_⟩
    rw[← ncl_drop,List.getElem?_drop] at hu
    rw[Addr.add_lit];exact hget _ u hu
theorem NRow.src {W:World}(h:NRow W v l): NSrc W v l:=by
 obtain⟨a,c,rfl,_,_,h1,_⟩:=h.srcs; exact h1
theorem NSrc.kept {W W':World}{x:Value}(h:NSrc W x l)(hk:∀ ad n c,x=.slice (some ad) n c→W'.heap[ad.block]? = W.heap[ad.block]?): NSrc W' x l:=by
 rcases h with h | ⟨ad,c,rfl,h⟩
 ·exact .inl h
 ·refine .inr ⟨ad,c,rfl,fun j u hu=>?_⟩
  have hb:=hk ad _ _ rfl
  have h0:=h j u hu
  have hbl:(ad.add j).block=ad.block:=by unfold Addr.add; split <;>rfl
  unfold World.cell? at h0 ⊢
  rw[hbl] at h0 ⊢
  rw[hb];exact h0
theorem NSrc.below {W W':World}{x:Value}(h:NSrc W x l)(hk:Below W.heap.size W W'): NSrc W' x l:=by
 rcases h with h | ⟨ad,c,rfl,h⟩
 ·exact .inl h
 ·cases l with
  | nil=>exact .inr ⟨ad,c,rfl,fun j u hu=>by simp[ncl] at hu⟩
  | cons t l =>
    have h0:=cell_lt' (h 0 (.int .i64 (t.1:Nat)) rfl)
    have hbl:(ad.add 0).block=ad.block:=by unfold Addr.add; split <;>rfl
    rw[hbl] at h0
    exact NSrc.kept (.inr ⟨ad,c,rfl,h⟩) (fun ad' n c' e=>by cases e; exact hk.block _ h0)
theorem run_app_N {W:World}(ty:TypeId)(hown:NRow W v l)(x:Value)(l2:List N3)(hx:NSrc W x l2)(hb:l.length+l2.length≤1000000)(H:Nat)(hH:W.heap.size=H):
 ∃ a cap w',(Builtin.append_ #[76,76] ty #[v,x]).run Tryz.prog W=.ok (.slice a (l.length+l2.length) cap) w'∧NRow w' (.slice a (l.length+l2.length) cap) (l++l2)∧W.grownBy w' v.ownBlock∧(∀ g,a=some g→v.ownBlock=some g.block∨g.block=H):=by
 obtain⟨i,hi,hz0,hz1,hz2⟩:=info_parts info35
 subst hH
 rcases hx with ⟨rfl,rfl⟩ | ⟨ad,c,rfl,hcl⟩
 ·have hown':=hown
  obtain⟨h1,⟨rfl,h2⟩ | ⟨g,cap,cur,rfl,_,h4,h5,h6,h7,h8⟩⟩:=hown
  ·have:l=[]:=List.length_eq_zero_iff.1 h2
   subst this
   refine⟨none,0,W,?_,by simpa using hown',World.grownBy.refl _ _,fun g h=>by cases h⟩
   simp[Builtin.append_,run_underlying un76,Go.sizeOf,Go.typeInfo,hi,Builtin.lenOf,Builtin.firstCells]
  ·refine⟨some ⟨g,0,none⟩,cap,W,?_,by simpa using hown',World.grownBy.refl _ _,fun g' h=>by cases h; exact .inl rfl⟩
   simp[Builtin.append_,run_underlying un76,Go.sizeOf,Go.typeInfo,hi,Builtin.lenOf,Builtin.firstCells,h5,storeCells]
 ·obtain⟨v',w',hr,k1,k2,k3,k4⟩:=run_append_own_at (P:=Tryz.prog) W 0 76 ty 35 i _ 3 24 un76 hi hz0 hz1 hz2 rfl (by decide) v l.length (ncl l) hown ad l2.length c (ncl l2) (ncl_len _) hcl (ncl_one _) (by simp only[maxLen];omega) (by omega) (Nat.zero_le _)
  obtain⟨k0,⟨rfl,k5⟩ | ⟨g,cap,cur,rfl,_,h4,h5,h6,h7,h8⟩⟩:=id k1
  ·refine⟨none,0,w',by rw[hr,k5],?_,k2,fun g h=>by cases h⟩
   unfold NRow; rw[List.length_append,ncl_append,k5];rw[k5] at k1; exact k1
  ·refine⟨some ⟨g,0,none⟩,cap,w',hr,?_,k2,fun g' h=>?_⟩
   ·unfold NRow; rw[List.length_append,ncl_append];exact k1
   ·cases h
    rcases k4 with k4 | k4
    ·exact .inl k4.symm
    ·right; simpa [Value.ownBlock] using k4
section
variable {ops:Array Oper} {rest:List Oper} {o:Oper} {a:Act} {Q:Exit→Act→World→Prop} {K:Act→World→Prop} {W:World} {E:Prop}
theorem wp_app_N (s x:Operand)(ho:o.op=.call { callee:=.builtin .append,args:=#[s,x],argTypes:=#[76,76] }) 
 (v:Value) (l:List N3) (hs:a.eval s=v) (hown:NRow W v l) (xv:Value) (l2:List N3) (hx:a.eval x=xv) (hsrc:NSrc W xv l2) (n:Nat) (hn:l.length+l2.length=n) (L:List N3) (hL:l++l2=L) (hb:n≤1000000) (H:Nat) (hH:W.heap.size=H)
 (h:∀ g cap w',NRow w' (.slice g n cap) L→W.grownBy w' v.ownBlock→(∀ k,g=some k→v.ownBlock=some k.block∨k.block=H)→K (a.put o.dst (.slice g n cap)) w'):o.wp Tryz.prog a W K Q:=by
 subst hn hL
 obtain⟨g,cap,w',hr,h2,h3,h4⟩:=run_app_N o.type hown xv l2 hsrc hb H hH
 unfold Oper.wp execOp
 simp only[ho,resolve,invoke,builtin,Sem.run_bind,Sem.run_pure,Result.andThen_ok,List.map_toArray,List.map_cons,List.map_nil,hs,hx,hr]
 exact h g cap w' h2 h3 h4
theorem app_N (hgd:o.guard=none)(s x:Operand)(ho:o.op=.call { callee:=.builtin .append,args:=#[s,x],argTypes:=#[76,76] }) 
 (v:Value) (l:List N3) (hs:a.eval s=v) (hown:NRow W v l) (xv:Value) (l2:List N3) (hx:a.eval x=xv) (hsrc:NSrc W xv l2) (n:Nat) (hn:l.length+l2.length=n) (L:List N3) (hL:l++l2=L) (hb:n≤1000000) (H:Nat) (hH:W.heap.size=H)
 (h:∀ g cap w',NRow w' (.slice g n cap) L→W.grownBy w' v.ownBlock→(∀ k,g=some k→v.ownBlock=some k.block∨k.block=H)→wpList Tryz.prog ops Q rest (a.put o.dst (.slice g n cap)) w'):wpList Tryz.prog ops Q (o::rest) a W :=
 wpList_plain hgd fun _ hK=>wp_app_N s x ho v l hs hown xv l2 hx hsrc n hn L hL hb H hH fun g cap w' h2 h3 h4=>hK _ _ (h g cap w' h2 h3 h4)
theorem step_N (hgd:o.guard=none)(s x:Operand)(ho:o.op=.call { callee:=.builtin .append,args:=#[s,x],argTypes:=#[76,76] }) 
 (v:Value) (l:List N3) (hs:a.eval s=v) (hown:NRow W v l) (xv:Value) (l2:List N3) (hx:a.eval x=xv) (hsrc:NSrc W xv l2) (n:Nat) (hn:l.length+l2.length=n) (L:List N3) (hL:l++l2=L) (hb:n≤1000000) (H:Nat) (hH:W.heap.size=H)
 (h:∀ g cap w',NRow w' (.slice g n cap) L→W.grownBy w' v.ownBlock→(∀ k,g=some k→v.ownBlock=some k.block∨k.block=H)→K (a.put o.dst (.slice g n cap)) w') :
 if Region.wanted o (yielded ops a.tmps)=true then Oper.wp Tryz.prog o a W K Q else E:=by
 rw[show Region.wanted o (yielded ops a.tmps)=true by simp[Region.wanted,hgd]]
 exact wp_app_N s x ho v l hs hown xv l2 hx hsrc n hn L hL hb H hH h
end
theorem NSrc.one {W:World}{B iu iv im:Nat}(h:W.heap[B]? = some (.cells #[.int .i64 (iu:Nat),.int .i64 (iv:Nat),.int .i64 (im:Nat)] 35 (0,0))): NSrc W (.slice (some ⟨B,0,none⟩) 1 1) [(iu,iv,im)] :=
 .inr ⟨⟨B,0,none⟩,1,rfl,fun j u hu=>World.news_of_block h j u (by simpa [ncl,ncl3] using hu)⟩
theorem NRow.nil (W:World): NRow W (.slice none 0 0) []:=⟨rfl,.inl ⟨rfl,rfl⟩⟩
end
def pinR (o:List UInt8)(G:List E3)(i:Int): Bool:=decide (0≤i∧i+1<(o.length:Int))&&pinAt o G i.toNat
theorem ba_get {s:ByteArray}{i:Nat}(h:i<s.size): s.data.toList.getD i 0=s[i]:=by
 rw[List.getD_eq_getElem?_getD,jG (by simpa using h)];rfl
theorem pinB98 (g:E3): (decide ((98:UInt8)≠66)&&pinB 98 g)=decide (g.m=0∧(g.u=0∨0≤g.v)):=by
 unfold pinB; rw[if_pos rfl,decide_eq_true (by decide),Bool.true_and]
theorem pinB66 (g:E3): (decide ((66:UInt8)≠98)&&pinB 66 g)=decide (g.u=0):=by
 unfold pinB; rw[if_neg (by decide),decide_eq_true (by decide),Bool.true_and]
theorem yp {a b:Bool}(h:a=b): Ending.returned (Value.bool a)=Ending.returned (Value.bool b):=by rw[h]
theorem quiet_same0 {P:Program}{f:FuncId}{args:Array Value}{W:World}{n:Nat}{v:Value}(h:Calls P f args (W.drewN n) fun e w'=>e=.returned v∧w'=W.drewN n):
 Calls P f args (W.drewN n) fun e w''=>e=.returned v∧∃ m,w''=W.drewN m:=h.mono fun _ _ ⟨he,hm⟩=>⟨he,n,hm⟩
theorem rpin_calls {b:Nat}{W:World}{c p:Nat}{fv:Value}{fl:List Value}{vs:List Int}{full:Bool}(H:RC b W c p fv fl vs full){lo:Nat}{gv:Value}{l:List N3}{G:List E3}(HP:PR lo W vs gv l G){s:ByteArray}(hlen:G.length=s.size+1)(hs:s.size≤1000000)(hlt:∀ x∈s.data.toList,x=98∨x=66)(i:Int):
 Calls Tryz.prog 35 #[.pointer (some ⟨c,0,none⟩),.agg #[.string s,gv],.int .i64 i] W fun e W'=>e=.returned (.bool (pinR s.data.toList G i))∧Hid (Below W.heap.size W W'):=by
 have w1:IntKind.i64.wrap ((s.size:Int) - 1)=(s.size:Int) - 1:=by rw[IntKind.wrap_i64];omega
 have hsz:s.data.toList.length=s.size:=by simp
 have HB1:Hid (Below W.heap.size W (W.alloc (.cells #[.string s,gv] 78))):=(Below.refl _ W).alloc (jR _) _
 by_cases hi:0≤i∧i+1<(s.size:Int)
 ·obtain⟨n,rfl⟩:∃ n:Nat,i=n:=⟨i.toNat,by omega⟩
  have hn:n+1<s.size:=by omega
  obtain⟨g,hg⟩:∃ g,G[n+1]? = some g:=⟨_,jG (by omega)⟩
  obtain⟨gb,gc,iu,iv,im,rfl,-,hat,g0,g1,g2⟩:=HP.el hg
  have i1:((n:Int)+1).toNat=n+1:=by omega
  have i2:(0:Int)≤(n:Int)+1:=by omega
  have i3:((n:Int)+1)<(s.size:Int):=by omega
  have i4:((n:Int)+1)<(G.length:Int):=by omega
  have i5:(n:Int)<(s.size:Int):=by omega
  have i6:((n:Int)).toNat=n:=by omega
  have i7:n<s.size:=by omega
  have q0:decide ((n:Int)<0)=false:=by simp
  have q2:decide ((s.size:Int) - 1≤(n:Int))=false:=by simp; omega
  have w2:IntKind.i64.wrap ((n:Int)+1)=(n:Int)+1:=by rw[IntKind.wrap_i64];omega
  have hR:pinR s.data.toList G n=(decide (s[n]≠s[n+1])&&pinB s[n] g):=by
   unfold pinR pinAt
   rw[hsz,decide_eq_true hi,Bool.true_and,i6,ba_get i7,ba_get hn,List.getD_eq_getElem?_getD,hg];rfl
  rw[hR]
  have hx1:=hlt s[n] (by rw[← ba_get i7,List.getD_eq_getElem?_getD,jG (by simpa using i7)];exact List.getElem_mem _)
  have hx2:=hlt s[n+1] (by rw[← ba_get hn,List.getD_eq_getElem?_getD,jG (by simpa using hn)];exact List.getElem_mem _)
  obtain⟨x1,hc1⟩:∃ x,s[n]=x:=⟨_,rfl⟩
  obtain⟨x2,hc2⟩:∃ x,s[n+1]=x:=⟨_,rfl⟩
  rw[hc1] at hx1 ⊢
  rw[hc2] at hx2 ⊢
  have hcp:=H.c0
  have lc:=jg hcp
  have nc:c≠W.heap.size:=Nat.ne_of_lt lc
  have lg:=jg g0
  have ng:gb≠W.heap.size:=Nat.ne_of_lt lg
  have HZ:Hid (((im=0)↔g.m=0)∧((iu=0)↔g.u=0)):=⟨H.wv.same hat.m H.wv.zero,H.wv.same hat.u H.wv.zero⟩
  have HS:∀ W2,Hid (Below W.heap.size W W2)→Calls Tryz.prog 73 #[.pointer (some ⟨p,0,none⟩),.int .i64 (iv:Nat)] W2 fun e W'=>e=.returned (.int .i64 (isg g.v))∧W'=W2:=fun W2 hb=>by
   obtain⟨C,_,h2⟩:=(H.below hb.out).rw
   exact rSign_calls h2 hat.v
  have hS:=fun M=>HS _ (Below.trans' (HB1.out.alloc (by simp) (.cells #[.int .i64 (iu:Nat),.int .i64 (iv:Nat),.int .i64 (im:Nat)] 35)) (jN _ M))
  have t1:((UInt8.toNat 98:Nat):Int)=98:=rfl
  have t2:((UInt8.toNat 66:Nat):Int)=66:=rfl
  have HB2:=jH (HB1.out.alloc (by simp) (.cells #[.int .i64 (iu:Nat),.int .i64 (iv:Nat),.int .i64 (im:Nat)] 35))
  clear HS H HP hat hg hR hlt hsz hlen
  go_enter Tryz.func35,Tryz.ntmps35
  have HX:=jH hs
  rcases hx1 with rfl | rfl <;>rcases hx2 with rfl | rfl
  ·go_wp2_with fail
   go_ret
   exact⟨rfl,HB2⟩
  ·by_cases hm:g.m=0
   ·have him:im=0:=HZ.out.1.2 hm
    subst him
    by_cases hu:g.u=0
    ·have hiu:iu=0:=HZ.out.2.2 hu
     subst hiu
     go_wp2_with fail
     go_quiet (fail)
     go_wp2_with fail
     go_ret
     refine⟨?_,Below.trans' HB2.out (qp _ _).out⟩
     exact yp (by rw[pinB98,decide_eq_true ⟨hm,.inl hu⟩])
    ·have hiu:¬ ((iu:Int)=0):=fun h=>hu (HZ.out.2.1 (by omega))
     have hiu2:decide ((iu:Int)=0)=false:=by simpa using hiu
     have hiu3:((iu:Int)==0)=false:=by simpa using hiu
     go_wp2_with fail
     go_quiet (first | (go_at_call 73; exact quiet_same0 (hS _)))
     go_wp2_with fail
     go_ret
     refine⟨?_,Below.trans' HB2.out (qp _ _).out⟩
     have:0≤isg g.v↔0≤g.v:=by unfold isg; split <;>(try split) <;>omega
     exact yp (by rw[pinB98];exact decide_eq_decide.2 ⟨fun h=>⟨hm,.inr (this.1 h)⟩,fun h=>this.2 (h.2.resolve_left hu)⟩)
   ·have him:¬ ((im:Int)=0):=fun h=>hm (HZ.out.1.1 (by omega))
    have him2:decide ((im:Int)=0)=false:=by simpa using him
    have him3:((im:Int)==0)=false:=by simpa using him
    go_wp2_with fail
    go_quiet (fail)
    go_wp2_with fail
    go_ret
    refine⟨?_,Below.trans' HB2.out (qp _ _).out⟩
    exact yp (by rw[pinB98,decide_eq_false (fun h=>hm h.1)])
  ·by_cases hu:g.u=0
   ·have hiu:iu=0:=HZ.out.2.2 hu
    subst hiu
    go_wp2_with fail
    go_ret
    refine⟨?_,HB2⟩
    exact yp ((decide_eq_true hu).symm.trans (pinB66 g).symm)
   ·have hiu:¬ ((iu:Int)=0):=fun h=>hu (HZ.out.2.1 (by omega))
    have hiu2:decide ((iu:Int)=0)=false:=by simpa using hiu
    have hiu3:((iu:Int)==0)=false:=by simpa using hiu
    go_wp2_with fail
    go_ret
    refine⟨?_,HB2⟩
    exact yp ((decide_eq_false hu).symm.trans (pinB66 g).symm)
  ·go_wp2_with fail
   go_ret
   exact⟨rfl,HB2⟩
 ·have hR:pinR s.data.toList G i=false:=by
   unfold pinR
   rw[hsz,decide_eq_false hi,Bool.false_and]
  rw[hR]
  by_cases h0:i<0
  ·have q0:decide (i<0)=true:=by simpa using h0
   go_enter Tryz.func35,Tryz.ntmps35
   go_wp2_with fail
   go_ret
   exact⟨rfl,HB1⟩
  ·have q0:decide (i<0)=false:=by simpa using h0
   have q2:decide ((s.size:Int) - 1≤i)=true:=by simp; omega
   go_enter Tryz.func35,Tryz.ntmps35
   go_wp2_with fail
   go_ret
   exact⟨rfl,HB1⟩
section
theorem RK.mono {b b':Nat}{W W':World}{c p:Nat}{fv fv':Value}{fl fl':List Value}{vs vs':List Int}{full':Bool}(h:RK b W W' c p fv fv' fl fl' vs vs' full')(hb:b≤b'): RK b' W W' c p fv fv' fl fl' vs vs' full':=⟨h.rc.mono hb,h.ext,h.fr,h.fvb⟩
variable {n:Nat} {full:Bool} {u v:Int}
theorem Sz.addS {m a b:Nat}{x y:Int}(hx:Sz n (a+14) b x)(hy:Sz m a b y)(hn:n+m≤2600)(ha:a≤2600)(hb:14≤b): Sz (n+m) (a+14) b (x+y):=by
 have h:=Sz.sums (a:=a) (b:=b) ha hb (form y) n x hx (by have:=hy.len; omega) (fun t ht=>⟨hy.ex _ (Sr.mem_exps ht),hy.ex2 _ (Sr.mem_exps ht)⟩)
 rw[jc] at h
 exact h.mono (by have:=hy.len; omega) (jR _) (jR _)
theorem Sz.shx {n a b m c:Nat}{x y:Int}(hx:Sz n a b x)(hy:Sz m b c y)(hok:shOK x y)(ham:a+m≤2600)(hb:b≤2600): Sz n (a+m) (b+14) (shx x y):=by
 have hm:∀ e∈exps (Sr.shx x y),∃ e0∈exps x,(e:Int)=(e0:Int)+y:=fun e he=>by
  rw[exps_shx hok] at he
  obtain⟨e0,h0,rfl⟩:=List.mem_map.1 he
  have:=hok e0 h0
  exact⟨e0,h0,by omega⟩
 refine⟨by rw[yP hok,zm];exact hx.len,fun e he=>?_,fun e he f hf=>?_⟩
 ·obtain⟨e0,h0,h1⟩:=hm e he
  rw[h1]
  have:=sum_len (e0:Int) y
  have:=hx.ex e0 h0
  have:=hy.len
  omega
 ·obtain⟨e0,h0,h1⟩:=hm e he
  rw[h1] at hf
  obtain⟨b0,hb0⟩:=Sz.any (n:=a) (a:=b+14) (hx.ex e0 h0) (fun g hg=>Nat.le_trans (hx.ex2 e0 h0 g hg) (by omega))
  obtain⟨b1,hb1⟩:=Sz.any (n:=m) (a:=b) hy.len hy.ex
  exact ((hb0 (b0+b1+14) (by omega)).addS (hb1 (b0+b1+14) (by omega)) ham hb (by omega)).ex f hf
theorem sum_cost' {x y:Int}{m:Nat}(hx:(form x).length≤n)(hy:(form y).length≤m): (sumAsk 0 (form x++form y)).length≤(n+m)*(4*(n+m)+3)+1:=by
 have h:=sumAsk_len (n+m) (form x++form y) 0 (by rw[j5,List.length_append];simp; omega)
 have h1:(form x++form y).length≤n+m:=by rw[List.length_append];omega
 exact Nat.le_trans h (Nat.add_le_add_right (Nat.mul_le_mul_right _ h1) _)
theorem sh_cost {S k:Int}{a b m:Nat}(h:Sz n a b S)(hk:(form k).length≤m): (shAsk S k).length≤n*((a+m)*(4*(a+m)+3)+1)+1:=by
 have key:∀ L:List Nat,(∀ e∈L,(form (e:Int)).length≤a)→(L.flatMap fun (e:Nat)=>sumAsk 0 (form (e:Int)++form k)).length≤L.length*((a+m)*(4*(a+m)+3)+1):=fun L=>by
  induction L with
  | nil=>intro _; simp
  | cons e L ih =>
    intro h
    have h1:=ih (fun e' he'=>h e' (by simp[he']))
    have h2:=sum_cost' (x:=(e:Int)) (y:=k) (h e (by simp)) hk
    rw[List.flatMap_cons,List.length_append,List.length_cons,Nat.add_mul];omega
 have h1:=key (exps S) h.ex
 have h2:(exps S).length≤n:=by rw[js];exact h.len
 unfold shAsk
 rw[List.length_cons]
 have h3:=Nat.mul_le_mul_right ((a+m)*(4*(a+m)+3)+1) h2
 omega
open Classical in
noncomputable def midFull (full:Bool)(x y:E3): Bool:=full||!decide (allowed (x.m+y.m))||!decide (allowed (y.v+x.m))||!decide (allowed (x.v - rr x y))||!decide (allowed (y.v+x.m - rr x y))
noncomputable def mulF (full:Bool)(x y:E3): E3:=if x.u≠0∧y.u≠0∧midFull full x y=true then ⟨0,0,0⟩ else timesE x y
open Classical in
noncomputable def fullF (full:Bool)(x y:E3): Bool:=full||!decide (TimesOK x y)
theorem mid_eq (full:Bool)(x y:E3): orFull (orFull (orFull (orFull full (x.m+y.m)) (y.v+x.m)) (x.v - rr x y)) (y.v+x.m - rr x y)=midFull full x y:=rfl
theorem mid_no {x y:E3}(h:midFull full x y=false): full=false∧allowed (x.m+y.m)∧allowed (y.v+x.m)∧allowed (x.v - rr x y)∧allowed (y.v+x.m - rr x y):=by
 unfold midFull at h
 cases full <;>simp_all
theorem mid_yes {x y:E3}(h1:x.u≠0)(h2:y.u≠0)(h:midFull full x y=true): mulF full x y=⟨0,0,0⟩∧fullF full x y=true:=by
 classical
 refine⟨if_pos ⟨h1,h2,h⟩,?_⟩
 unfold fullF
 cases full with
 | true=>rfl
 | false =>
   rw[Bool.false_or,Bool.not_eq_true',decide_eq_false_iff_not]
   intro hT
   have hm:=hT.mine h1 h2
   have:midFull false x y=false:=by unfold midFull; simp[hT.m,hT.q,hm.1,hm.2.1]
   rw[this] at h; exact absurd h (by decide)
def sA (x y:E3): Int:=Sr.shx x.u (x.v - rr x y)
def sB (x y:E3): Int:=Sr.shx y.u (y.v+x.m - rr x y)
theorem mulF_mid {x y:E3}(h1:x.u≠0)(h2:y.u≠0)(h:midFull full x y=false): mulF full x y=plainE (sA x y+sB x y) (rr x y) (x.m+y.m):=by
 unfold mulF
 rw[if_neg (fun k=>by rw[h] at k; exact absurd k.2.2 (by decide))]
 unfold timesE
 rw[if_neg h1,if_neg h2];rfl
theorem full_mid0 {x y:E3}(h1:x.u≠0)(h2:y.u≠0)(h:midFull full x y=false)(hS:sA x y+sB x y=0): orFull (orFull (orFull false (sA x y)) (sB x y)) (sA x y+sB x y)=fullF full x y:=by
 classical
 obtain⟨rfl,a,b,c,d⟩:=mid_no h
 have:TimesOK x y↔allowed (sA x y)∧allowed (sB x y)∧allowed (sA x y+sB x y) :=
  ⟨fun t=>⟨(t.mine h1 h2).2.2.1,(t.mine h1 h2).2.2.2.1,(t.mine h1 h2).2.2.2.2.1⟩,fun ⟨p,q,r⟩=>⟨a,b,fun k=>absurd k h1,fun _ k=>absurd k h2,fun _ _=>⟨c,d,p,q,r,.inl hS⟩⟩⟩
 unfold orFull fullF
 by_cases ha:allowed (sA x y) <;>by_cases hb:allowed (sB x y) <;>by_cases hc:allowed (sA x y+sB x y) <;>simp[this,ha,hb,hc]
theorem full_mid {x y:E3}(h1:x.u≠0)(h2:y.u≠0)(h:midFull full x y=false)(hS:sA x y+sB x y≠0)(hu:u=Sr.shx (sA x y+sB x y) (-(lowE (sA x y+sB x y):Int)))(hv:v=rr x y+lowE (sA x y+sB x y)):
 orFull (orFull (orFull (orFull (orFull false (sA x y)) (sB x y)) (sA x y+sB x y)) u) v=fullF full x y:=by
 classical
 obtain⟨rfl,a,b,c,d⟩:=mid_no h
 have:TimesOK x y↔allowed (sA x y)∧allowed (sB x y)∧allowed (sA x y+sB x y)∧allowed u∧allowed v:=by
  subst hu; subst hv
  constructor
  ·intro t
   obtain⟨_,_,p,q,r,s⟩:=t.mine h1 h2
   rcases s with s | ⟨s1,s2⟩
   ·exact absurd s hS
   ·exact⟨p,q,r,s1,s2⟩
  ·rintro⟨p,q,r,s1,s2⟩
   exact⟨a,b,fun k=>absurd k h1,fun _ k=>absurd k h2,fun _ _=>⟨c,d,p,q,r,.inr ⟨s1,s2⟩⟩⟩
 unfold orFull fullF
 by_cases ha:allowed (sA x y) <;>by_cases hb:allowed (sB x y) <;>by_cases hc:allowed (sA x y+sB x y) <;>by_cases hd:allowed u <;>by_cases he:allowed v <;>simp[this,ha,hb,hc,hd,he]
theorem full_zero {x y:E3}(h1:x.u=0)(h2:y.u=0): orFull (orFull full (x.m+y.m)) (y.v+x.m)=fullF full x y:=by
 classical
 unfold orFull fullF
 have:TimesOK x y↔allowed (x.m+y.m)∧allowed (y.v+x.m):=⟨fun h=>⟨h.m,h.q⟩,fun ⟨a,b⟩=>⟨a,b,fun _=>.inl h2,fun h=>absurd h1 h,fun h=>absurd h1 h⟩⟩
 by_cases ha:allowed (x.m+y.m) <;>by_cases hb:allowed (y.v+x.m) <;>simp[this,ha,hb]
theorem or4 {a b c d:Int}{x y:E3}(h:TimesOK x y↔allowed a∧allowed b∧allowed c∧allowed d): orFull (orFull (orFull (orFull full a) b) c) d=fullF full x y:=by
 classical
 unfold orFull fullF
 by_cases ha:allowed a <;>by_cases hb:allowed b <;>by_cases hc:allowed c <;>by_cases hd:allowed d <;>simp[h,ha,hb,hc,hd]
theorem times_left {x y:E3}(h1:x.u=0)(h2:y.u≠0): TimesOK x y↔allowed (x.m+y.m)∧allowed (y.v+x.m)∧allowed (Sr.shx y.u (-(lowE y.u:Int)))∧allowed (y.v+x.m+lowE y.u):=by
 constructor
 ·intro h
  rcases h.left h1 with h3 | h3
  ·exact absurd h3 h2
  ·exact⟨h.m,h.q,h3.1,h3.2⟩
 ·rintro⟨a,b,c,d⟩
  exact⟨a,b,fun _=>.inr ⟨c,d⟩,fun h=>absurd h1 h,fun h=>absurd h1 h⟩
theorem times_right {x y:E3}(h1:x.u≠0)(h2:y.u=0): TimesOK x y↔allowed (x.m+y.m)∧allowed (y.v+x.m)∧allowed (Sr.shx x.u (-(lowE x.u:Int)))∧allowed (x.v+lowE x.u):=by
 constructor
 ·intro h
  rcases h.right h1 h2 with h3 | h3
  ·exact absurd h3 h1
  ·exact⟨h.m,h.q,h3.1,h3.2⟩
 ·rintro⟨a,b,c,d⟩
  exact⟨a,b,fun h=>absurd h h1,fun _ _=>.inr ⟨c,d⟩,fun _ h=>absurd h2 h⟩
structure MSz (B:Nat)(full:Bool)(x y:E3): Prop where
 b:400≤B
 xu:Sz 600 1300 400 x.u
 xv:Sz 1300 400 B x.v
 xm:Sz 600 620 400 x.m
 yu:Sz 600 1300 400 y.u
 yv:Sz 300 300 300 y.v
 ym:Sz 300 600 400 y.m
 xf:full=false→Sz 300 300 300 x.u
 yf:full=false→Sz 300 300 300 y.u
theorem MSz.summands {B:Nat}{x y:E3}(h:MSz B full x y)(hm:midFull full x y=false): Sz 300 600 386 (sA x y)∧Sz 300 600 386 (sB x y):=by
 obtain⟨h0,-,-,c,d⟩:=mid_no hm
 have hr:=rr_le x y
 exact⟨((h.xf h0).shx (Sz.of_allowed c) (zM hr.1) (by omega) (by omega)).mono (jR _) (jR _) (by omega),((h.yf h0).shx (Sz.of_allowed d) (zM hr.2) (by omega) (by omega)).mono (jR _) (jR _) (by omega)⟩
theorem MSz.sum {B:Nat}{x y:E3}(h:MSz B full x y)(hm:midFull full x y=false): Sz 600 614 386 (sA x y+sB x y) :=
 ((h.summands hm).1.mono (jR _) (show 600≤600+14 by omega) (jR _)).addS (h.summands hm).2 (by omega) (by omega) (by omega)
structure EOK (x:E3): Prop where
 u:allowed x.u
 v:allowed x.v
 m:allowed x.m
theorem EOK.zero:EOK ⟨0,0,0⟩:=⟨jX,jX,jX⟩
theorem plainE_ok {m:Int}(h:plainOK u v)(hm:allowed m): EOK (plainE u v m):=by
 unfold plainE
 by_cases h0:u=0
 ·rw[if_pos h0];exact⟨jX,jX,hm⟩
 ·rw[if_neg h0];rcases h with h | h
  ·exact absurd h h0
  ·exact⟨h.1,h.2,hm⟩
theorem TimesOK.eok {x y:E3}(h:TimesOK x y): EOK (timesE x y):=by
 unfold timesE
 by_cases h1:x.u=0
 ·rw[if_pos h1];exact plainE_ok (h.left h1) h.m
 ·rw[if_neg h1]
  by_cases h2:y.u=0
  ·rw[if_pos h2];exact plainE_ok (h.right h1 h2) h.m
  ·rw[if_neg h2];exact plainE_ok (h.mine h1 h2).2.2.2.2.2 h.m
theorem plain_sz {m:Int}{n1:Nat}(hu:Sz 600 n 386 u)(hn:n+n≤1300)(hv:Sz n1 400 386 v)(hn1:n1+n≤1300)(hm:Sz 600 620 400 m): ∃ B,400≤B∧Sz 600 1300 400 (plainE u v m).u∧Sz 1300 400 B (plainE u v m).v∧Sz 600 620 400 (plainE u v m).m:=by
 unfold plainE
 by_cases h0:u=0
 ·rw[if_pos h0];exact⟨400,jR _,Sz.zero _ _ _,Sz.zero _ _ _,hm⟩
 ·rw[if_neg h0]
  have hl:=zI h0
  obtain⟨B,hB⟩:=Sz.any (n:=n) (a:=386) (hu.ex _ hl) (hu.ex2 _ hl)
  have h1:=hB (B+400) (by omega)
  refine⟨B+400,by omega,(hu.shx h1.neg zo (by omega) (by omega)).mono (jR _) hn (by omega),?_,hm⟩
  exact ((hv.mono (jR _) (show 400≤386+14 by omega) (show 386≤B+400 by omega)).addS h1 (by omega) (by omega) (by omega)).mono hn1 (by omega) (jR _)
theorem mulF_ok {x y:E3}(h:fullF full x y=false): full=false∧TimesOK x y∧mulF full x y=timesE x y:=by
 classical
 have hfu:full=false∧TimesOK x y:=by
  unfold fullF at h
  cases full <;>simp_all
 refine⟨hfu.1,hfu.2,?_⟩
 by_cases hx0:x.u=0
 ·unfold mulF; rw[if_neg (fun h=>h.1 hx0)]
 ·by_cases hy0:y.u=0
  ·unfold mulF; rw[if_neg (fun h=>h.2.1 hy0)]
  ·cases hmid:midFull full x y with
   | true=>rw[(mid_yes hx0 hy0 hmid).2] at h; exact absurd h (by decide)
   | false=>unfold mulF; rw[if_neg (fun k=>by rw[hmid] at k; exact absurd k.2.2 (by decide))]
theorem MSz.first {x y:E3}(hx:EOK x)(hu:Sz 300 600 386 y.u)(hv:allowed y.v)(hm:Sz 300 600 314 y.m)(hf:full=false→allowed y.u): MSz 400 full x y :=
 ⟨jR _,(Sz.of_allowed hx.u).mono (by omega) (by omega) (by omega),(Sz.of_allowed hx.v).mono (by omega) (by omega) (by omega),(Sz.of_allowed hx.m).mono (by omega) (by omega) (by omega),hu.mono (by omega) (by omega) (by omega),Sz.of_allowed hv,hm.mono (jR _) (jR _) (by omega),fun _=>Sz.of_allowed hx.u,fun h=>Sz.of_allowed (hf h)⟩
theorem MSz.second {x y z:E3}(hx:EOK x)(hu:Sz 300 600 386 y.u)(hv:allowed y.v)(hm:Sz 300 600 314 y.m)(hf:full=false→allowed y.u)(hz:EOK z): ∃ B,MSz B (fullF full x y) (mulF full x y) z:=by
 have h1:=MSz.first hx hu hv hm hf
 have hms:Sz 600 620 400 (x.m+y.m):=(((Sz.of_allowed hx.m).mono (jR _) (show 300≤600+14 by omega) (show 300≤314 by omega)).addS hm (by omega) (by omega) (by omega)).mono (by omega) (by omega) (by omega)
 have hq:Sz 600 400 386 (y.v+x.m):=(((Sz.of_allowed hv).mono (jR _) (show 300≤300+14 by omega) (jR _)).addS (Sz.of_allowed hx.m) (by omega) (by omega) (by omega)).mono (by omega) (by omega) (by omega)
 have hxv:Sz 600 400 386 x.v:=(Sz.of_allowed hx.v).mono (by omega) (by omega) (by omega)
 obtain⟨B,hB,su,sv,sm⟩:∃ B,400≤B∧Sz 600 1300 400 (mulF full x y).u∧Sz 1300 400 B (mulF full x y).v∧Sz 600 620 400 (mulF full x y).m:=by
  by_cases hx0:x.u=0
  ·have:mulF full x y=plainE y.u (y.v+x.m) (x.m+y.m):=by unfold mulF timesE; rw[if_neg (fun h=>h.1 hx0),if_pos hx0]
   rw[this]
   exact plain_sz (n:=600) (hu.mono (by omega) (jR _) (jR _)) (by omega) hq (by omega) hms
  ·by_cases hy0:y.u=0
   ·have:mulF full x y=plainE x.u x.v (x.m+y.m):=by unfold mulF timesE; rw[if_neg (fun h=>h.2.1 hy0),if_neg hx0,if_pos hy0]
    rw[this]
    exact plain_sz (n:=600) ((Sz.of_allowed hx.u).mono (by omega) (by omega) (by omega)) (by omega) hxv (by omega) hms
   ·cases hmid:midFull full x y with
    | true=>rw[(mid_yes hx0 hy0 hmid).1];exact⟨400,jR _,Sz.zero _ _ _,Sz.zero _ _ _,Sz.zero _ _ _⟩
    | false =>
      rw[mulF_mid hx0 hy0 hmid]
      refine plain_sz (n:=614) (h1.sum hmid) (by omega) ?_ (n1:=600) (by omega) hms
      unfold rr; split
      ·exact hxv
      ·exact hq
 refine⟨B,hB,su,sv,sm,(Sz.of_allowed hz.u).mono (by omega) (by omega) (by omega),Sz.of_allowed hz.v,(Sz.of_allowed hz.m).mono (jR _) (by omega) (by omega),fun h=>?_,fun _=>Sz.of_allowed hz.u⟩
 obtain⟨-,h2,h3⟩:=mulF_ok h
 rw[h3]
 exact Sz.of_allowed h2.eok.u
theorem fullF_false {x y:E3}(h:TimesOK x y): fullF false x y=false∧mulF false x y=timesE x y:=by
 classical
 have h1:fullF false x y=false:=by unfold fullF; simp[h]
 exact⟨h1,(mulF_ok h1).2.2⟩
theorem plainOK_part {k:Int}(h:allowed k): plainOK k 0↔k=0∨allowed (Sr.shx k (-(lowE k:Int))):=by
 unfold plainOK
 by_cases h0:k=0
 ·simp[h0]
 ·have:=zz h (.here (zI h0))
  rw[Int.zero_add]
  simp[h0,this]
end
section
noncomputable def mkF1o (full:Bool)(c:UInt8)(K:Int): Bool:=if c=66 then orFull full (pinE c K).u else full
noncomputable def mkF2o (full:Bool)(c:UInt8)(K:Int)(x:E3): Bool:=fullF (mkF1o full c K) x (pinE c K)
noncomputable def mkG1o (full:Bool)(c:UInt8)(K:Int)(x:E3): E3:=mulF (mkF1o full c K) x (pinE c K)
noncomputable def mkF3o (full:Bool)(c:UInt8)(K:Int)(x z:E3): Bool:=fullF (mkF2o full c K x) (mkG1o full c K x) z
noncomputable def mkGo (full:Bool)(c:UInt8)(K:Int)(x z:E3): E3:=mulF (mkF2o full c K x) (mkG1o full c K x) z
noncomputable abbrev mkF1 (c:UInt8)(K:Int): Bool:=mkF1o false c K
noncomputable abbrev mkF2 (c:UInt8)(K:Int)(x:E3): Bool:=mkF2o false c K x
noncomputable abbrev mkG1 (c:UInt8)(K:Int)(x:E3): E3:=mkG1o false c K x
noncomputable abbrev mkF3 (c:UInt8)(K:Int)(x z:E3): Bool:=mkF3o false c K x z
noncomputable abbrev mkG (c:UInt8)(K:Int)(x z:E3): E3:=mkGo false c K x z
theorem zN {x:Int}: orFull false x=false↔allowed x:=by
 classical
 unfold orFull
 simp
theorem orFull_zero (full:Bool): orFull full 0=full:=by
 classical
 unfold orFull
 have:=jX
 simp[this]
theorem pinE66 (K:Int): pinE 66 K=plainE K 0 0:=rfl
variable {K:Int} {c:UInt8} {o:List UInt8} {G:List E3} {i:Nat}
theorem yS (h:K≠0): plainE K 0 0=⟨shx K (-(lowE K:Int)),(lowE K:Nat),0⟩:=by unfold plainE; rw[if_neg h,Int.zero_add]
theorem pinE_sz (h:allowed K): Sz 300 600 386 (pinE c K).u∧allowed (pinE c K).v∧allowed (pinE c K).m:=by
 unfold pinE
 split
 ·by_cases h0:K=0
  ·subst h0; exact⟨Sz.zero _ _ _,jX,jX⟩
  ·rw[yS h0]
   have hl:=zz h (.here (zI h0))
   exact⟨((Sz.of_allowed h).shx (Sz.of_allowed hl).neg zo (by omega) (by omega)).mono (jR _) (by omega) (by omega),hl,jX⟩
 ·exact⟨Sz.zero _ _ _,jX,h⟩
theorem mkF1_no:mkF1 c K=false→allowed (pinE c K).u:=by
 unfold mkF1 mkF1o
 split
 ·exact zN.1
 ·rename_i h; intro _; unfold pinE; rw[if_neg h];exact jX
theorem mk_no {x z:E3}(hK:allowed K)(h:mkF3 c K x z=false): pinOK c K x z∧mkG c K x z=pinX c K x z:=by
 obtain⟨h1,h2,h3⟩:=mulF_ok h
 obtain⟨h4,h5,h6⟩:=mulF_ok h1
 unfold mkG mkGo pinX
 unfold mkG1o at h2 h3 ⊢
 rw[h6] at h2 h3 ⊢
 refine⟨⟨?_,h5,h2⟩,h3⟩
 rintro rfl
 rw[plainOK_part hK]
 by_cases h0:K=0
 ·exact .inl h0
 ·have:=mkF1_no h4
  rw[pinE66,yS h0] at this
  exact .inr this
theorem mk_yes {x z:E3}(hK:allowed K)(h:pinOK c K x z): mkF3 c K x z=false:=by
 have h1:mkF1 c K=false:=by
  unfold mkF1 mkF1o
  split
  ·rename_i hc
   subst hc
   rw[zN,pinE66]
   rcases (plainOK_part hK).1 (h.1 rfl) with h0 | h0
   ·subst h0; exact jX
   ·by_cases hz:K=0
    ·subst hz; exact jX
    ·rw[yS hz];exact h0
  ·rfl
 have h2:=fullF_false h.2.1
 have e1:mkG1 c K x=timesE x (pinE c K):=by unfold mkG1 mkG1o; rw[show mkF1o false c K=false from h1];exact h2.2
 have e2:mkF2 c K x=false:=by unfold mkF2 mkF2o; rw[show mkF1o false c K=false from h1];exact h2.1
 unfold mkF3 mkF3o
 rw[show mkF2o false c K x=false from e2,show mkG1o false c K x=timesE x (pinE c K) from e1]
 exact (fullF_false h.2.2).1
noncomputable def makeGo (full:Bool)(o:List UInt8)(G:List E3)(i:Nat)(K:Int): List E3:=G.take i++[mkGo full (o.getD i 0) K (G.getD i Zero) (G.getD (i+2) Zero)]++G.drop (i+3)
noncomputable def makeFo (full:Bool)(o:List UInt8)(G:List E3)(i:Nat)(K:Int): Bool:=mkF3o full (o.getD i 0) K (G.getD i Zero) (G.getD (i+2) Zero)
noncomputable abbrev makeG (o:List UInt8)(G:List E3)(i:Nat)(K:Int): List E3:=makeGo false o G i K
noncomputable abbrev makeF (o:List UInt8)(G:List E3)(i:Nat)(K:Int): Bool:=makeFo false o G i K
structure MkH (full:Bool)(c:UInt8)(K:Int): Prop where
 u:Sz 300 600 386 (pinE c K).u
 v:allowed (pinE c K).v
 m:Sz 300 600 314 (pinE c K).m
 f:mkF1o full c K=false→allowed (pinE c K).u
 a:c=66→allowed K
theorem MkH.of_allowed {full:Bool}{c:UInt8}{K:Int}(h:allowed K): MkH full c K:=by
 have hs:=pinE_sz (c:=c) h
 refine⟨hs.1,hs.2.1,(Sz.of_allowed hs.2.2).mono (by omega) (by omega) (by omega),?_,fun _=>h⟩
 unfold mkF1o
 split
 ·intro h2
  cases full with
  | false=>exact zN.1 h2
  | true=>unfold orFull at h2; simp at h2
 ·rename_i h; intro _; unfold pinE; rw[if_neg h];exact jX
theorem MkH.big (hc:c=98)(h:Sz 300 600 314 K): MkH true c K:=by
 subst hc
 have e:pinE 98 K=⟨0,0,K⟩:=rfl
 refine⟨by rw[e];exact Sz.zero _ _ _,by rw[e];exact jX,by rw[e];exact h,fun _=>by rw[e];exact jX,fun h=>absurd h (by decide)⟩
theorem makeFo_full:makeFo true o G i K=true:=by
 have h1:∀ {x y:E3},fullF true x y=true:=fun {x y}=>by unfold fullF; simp
 have h2:∀ {c:UInt8},mkF1o true c K=true:=fun {c}=>by
  unfold mkF1o
  split
  ·unfold orFull; simp
  ·rfl
 unfold makeFo mkF3o mkF2o
 rw[h2,h1,h1]
theorem makeF_iff (hK:allowed (pinK o G i)): makeF o G i (pinK o G i)=false↔pinA o G i:=⟨fun h=>⟨hK,(mk_no hK h).1⟩,fun h=>mk_yes hK h.2⟩
theorem makeG_ok (hK:allowed (pinK o G i))(h:makeF o G i (pinK o G i)=false): makeG o G i (pinK o G i)=pinG o G i:=by
 show makeGo false o G i _=_
 unfold makeGo pinG; rw[show mkGo false _ _ _ _=_ from (mk_no hK h).2]
end
end Sr
