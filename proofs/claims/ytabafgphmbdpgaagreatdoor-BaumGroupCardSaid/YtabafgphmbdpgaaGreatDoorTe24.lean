/- Texts of this claim, joined: Pin. -/
import Derived.Test.YtabafgphmbdpgaaGreatDoorTe1
import Derived.Test.YtabafgphmbdpgaaGreatDoorTe16
import Derived.Test.YtabafgphmbdpgaaGreatDoorTe23
import Derived.Maps.RangeWalk
set_option maxHeartbeats 8000000
set_option maxRecDepth 100000
namespace Sr
open Go Go.Proofs Go.RowKit Go.Maps Go.WideMaps
section
def pinE (c:UInt8)(k:Int): E3:=if c=66 then plainE k 0 0 else ⟨0,0,k⟩
def pinX (c:UInt8)(k:Int)(x0 x2:E3): E3:=timesE (timesE x0 (pinE c k)) x2
def pinOK (c:UInt8)(k:Int)(x0 x2:E3): Prop:=(c=66→plainOK k 0)∧TimesOK x0 (pinE c k)∧TimesOK (timesE x0 (pinE c k)) x2
variable {B i:Nat} {W:World}
theorem jy {F:List Nat}{W0 W':World}(h:Below B W0 W)(hB:B≤W0.heap.size)(hi:∀ b∈F,B≤b)(hf:Fr F W W'): Below B W0 W' :=
 ⟨hf.os.trans h.os,hf.tape.trans h.tape,hf.output.trans h.output,Nat.le_trans h.size hf.size,fun k hk=>(hf.block k (by have:=h.size; omega) fun hm=>by have:=hi k hm; omega).trans (h.block k hk)⟩
theorem Below.low {W':World}(h:Below W.heap.size W W')(hB:B≤W.heap.size): Below B W W':=⟨h.os,h.tape,h.output,h.size,fun k hk=>h.block k (by omega)⟩
theorem zx {e:TypeId}{s g n m cap:Nat}{xs:List Value}(h:W.ownsRow 0 e s (.slice (some ⟨g,0,none⟩) m cap) n xs){v:Value}(hi:xs[i]? = some v): W.cell? ⟨g,i,none⟩=some v:=by
 obtain⟨hl,⟨hh,h0⟩ | ⟨g',cap',cur,he,hr⟩⟩:=h
 ·cases hh
 ·cases he; exact y5 ⟨hl,.inr ⟨g,cap,cur,rfl,hr⟩⟩ hi
theorem je {F:List Nat}(w:World){a:Addr}(v:Value)(h:a.block∈F): Fr F w (w.setCell a v) :=
 ⟨rfl,rfl,rfl,by simp,fun b hb hn=>jS _ _ _ _ (by rintro rfl; exact hn h)⟩
theorem cut_set {α:Type}{G:List α}{x:α}(h:i<G.length): (G.set i x).take (i+1)++(G.set i x).drop (i+3)=G.take i++[x]++G.drop (i+3):=by
 rw[List.set_eq_take_append_cons_drop,if_pos h]
 have e:(G.take i).length=i:=by simp; omega
 have e1:G.take i++x::G.drop (i+1)=(G.take i++[x])++G.drop (i+1):=by simp
 have l1:(G.take i++[x]).length=i+1:=by simp; omega
 rw[e1,List.take_append_of_le_length (by omega),List.take_of_length_le (by omega),List.drop_append,List.drop_of_length_le (by omega),l1,List.drop_drop,show i+1+(i+3 - (i+1))=i+3 by omega]
 simp
def PinQ (B p ob gb:Nat)(o:List UInt8)(G:List E3)(W:World)(e:Ending)(W':World): Prop:=e=.returned (.tuple #[])∧∃ ov' gv' l',Hid (Rd B W' p ov' gv' l' o G)∧Hid (ov'.ownBlock=some ob∧gv'.ownBlock=some gb)∧Hid (Fr [p,ob,gb] W W')
def PinP (ok:Prop)(B p:Nat)(ov gv:Value)(o:List UInt8)(G:List E3)(W:World)(e:Ending)(W':World): Prop:=(ok∧∃ ob gb,ov.ownBlock=some ob∧gv.ownBlock=some gb∧PinQ B p ob gb o G W e W')∨(¬ ok∧e=pan 5∧Hid (Below W.heap.size W W'))
theorem pinch_any {p:Nat}{ov gv:Value}{l:List Q3}{o:List UInt8}{G:List E3}(h:Rd B W p ov gv l o G){c:UInt8}{x0 x2:E3}(hc:o[i]? = some c)(h1:i+1<o.length)(h0:G[i]? = some x0)(h2:G[i+2]? = some x2)(hl:o.length≤1000000)(hgl:G.length=o.length+1) 
 {qk:Option Addr} {k:Int} (hk:IsN W (.agg #[.pointer qk]) k) :
 Calls Tryz.prog 70 #[.pointer (some ⟨p,0,none⟩),.int .i64 i,.agg #[.pointer qk]] W (PinP (pinOK c k x0 x2) B p ov gv (o.take i++o.drop (i+2)) (G.take i++[pinX c k x0 x2]++G.drop (i+3)) W):=by
 obtain⟨ob,oc,rfl,hby⟩:=h.byte hc
 obtain⟨gb,gc,t0,rfl,ht0,hie0,g0,g1,g2⟩:=h.el h0
 obtain⟨gb',gc',t2,he,ht2,hie2,g3,g4,g5⟩:=h.el h2
 cases he
 have a0:=h.c0
 have a1:=h.c1
 have bc:=hby hc
 have i1:((i:Int)+2).toNat=i+2:=by omega
 have i2:(0:Int)≤(i:Int)+2:=by omega
 have i3:((i:Int)+2)<(G.length:Int):=by omega
 have i4:(i:Int)<(G.length:Int):=by omega
 have i5:(i:Int)<(o.length:Int):=by omega
 have i6:((i:Int)).toNat=i:=by omega
 have w1:IntKind.i64.wrap ((i:Int)+1)=(i:Int)+1:=by rw[IntKind.wrap_i64];omega
 have w2:IntKind.i64.wrap ((i:Int)+2)=(i:Int)+2:=by rw[IntKind.wrap_i64];omega
 have w3:IntKind.i64.wrap ((i:Int)+3)=(i:Int)+3:=by rw[IntKind.wrap_i64];omega
 have HR:=jH h
 have HE0:=jH hie0
 have HE2:=jH hie2
 have HK0:=jH hk
 have HBY:Hid (∀ {j:Nat} {d:UInt8},o[j]? = some d→W.cell? ⟨ob,j,none⟩=some (.int .u8 (d.toNat:Nat))):=hby
 have hgi:i+3≤G.length:=by omega
 clear hby h hie0 hie2 hk hgl
 have lp:=jg a0
 have np:p≠W.heap.size:=Nat.ne_of_lt lp
 have lb:=jg bc
 have nb:ob≠W.heap.size:=Nat.ne_of_lt lb
 have lg:=jg g0
 have ng:gb≠W.heap.size:=Nat.ne_of_lt lg
 have np1:p≠W.heap.size+1:=by omega
 have nb1:ob≠W.heap.size+1:=by omega
 have ng1:gb≠W.heap.size+1:=by omega
 have HBl:Hid (B≤W.heap.size):=by show _≤_; have:=HR.out.hp; omega
 have HG0:=jH g0
 have HG1:=jH g1
 have HG2:=jH g2
 have HG3:=jH g3
 have HG4:=jH g4
 have HG5:=jH g5
 clear g0 g1 g2 g3 g4 g5
 obtain⟨W2,hW2⟩:∃ W2,W2=(W.alloc (.cells #[.pointer qk] 26)).alloc (.cells #[.pointer none,.pointer none,.pointer qk] 28):=⟨_,rfl⟩
 have HW2:=jH hW2
 have HB2:Hid (Below W.heap.size W W2):=by show Below _ _ _; rw[hW2];exact ((Below.refl _ _).alloc (jR _) _).alloc (by simp) _
 have HH:Hid (Has W2 [(W.heap.size+1,#[.pointer none,.pointer none,.pointer qk],28),(W.heap.size,#[.pointer qk],26)]):=by
  show Has _ _
  have h:=((Has.nil W).add #[.pointer qk] 26).add #[.pointer none,.pointer none,.pointer qk] 28
  rw[jY] at h
  rw[hW2];exact h
 clear hW2
 go_enter Tryz.func70,Tryz.ntmps70
 by_cases hb:c=66
 ·have hb1:(c.toNat:Int)=66:=by rw[hb];rfl
  have HPE:Hid (pinE c k=plainE k 0 0):=by show _=_; unfold pinE; rw[if_pos hb]
  have HCB:Hid (c=66):=hb
  have hPl:=yl (W:=W2) (HK0.out.below HB2.out) (j4 W2) (j4 W2)
  clear hb
  go_wp2_with fail
  rw[show (W.alloc (.cells #[.pointer qk] 26)).alloc (.cells #[.pointer none,.pointer none,.pointer qk] 28)=W2 from HW2.out.symm]
  refine hPl.mono ?_
  rintro e wa (⟨hokp,eu,ev,em,rfl,hea,hba⟩ | ⟨hno,rfl,hba⟩)
  rotate_left
  ·refine And.intro rfl ?_
   exact Or.inr ⟨fun h=>hno (h.1 HCB.out),rfl,Below.trans' HB2.out hba.out⟩
  have HOKP:Hid (c=66→plainOK k 0):=fun _=>hokp
  have Y:=jH ((HH.out.below hba.out) (W.heap.size+1,#[.pointer none,.pointer none,.pointer qk],28) (by simp))
  have d0:=jB Y.out 0
  have d1:=jB Y.out 1
  have d2:=jB Y.out 2
  have f0:=jF Y.out 0
  have f1:=jF Y.out 1
  have f2:=jF Y.out 2
  have HBA0:=jH (Below.trans' HB2.out hba.out)
  have HEA0:=jH hea.out
  clear hPl hba hea hokp
  go_wp2_with fail
  have YA:Hid ((set3 wa (W.heap.size+1) (.pointer eu) (.pointer ev) (.pointer em)).heap[W.heap.size+1]? = some (.cells #[.pointer eu,.pointer ev,.pointer em] 28 (0,0))):=z7 Y.out
  have HEA:Hid (IsE (set3 wa (W.heap.size+1) (.pointer eu) (.pointer ev) (.pointer em)) (.agg #[.pointer eu,.pointer ev,.pointer em]) (pinE c k)):=by
   show IsE _ _ _
   rw[HPE.out];exact IsE.store3 HEA0.out Y.out
  have HBA:Hid (Below W.heap.size W (set3 wa (W.heap.size+1) (.pointer eu) (.pointer ev) (.pointer em))):=Below.set3 HBA0.out (by omega)
  obtain⟨wq,hwq⟩:∃ wq,wq=set3 wa (W.heap.size+1) (.pointer eu) (.pointer ev) (.pointer em):=⟨_,rfl⟩
  rw[← hwq] at YA HEA HBA
  rw[show ((wa.setCell ⟨W.heap.size+1,0,none⟩ (.pointer eu)).setCell ⟨W.heap.size+1,1,none⟩ (.pointer ev)).setCell ⟨W.heap.size+1,2,none⟩ (.pointer em)=wq from hwq.symm]
  clear hwq HEA0 HBA0 Y d0 d1 d2 f0 f1 f2 a0 a1 bc
  have g0:=jQ HBA.out HG0.out
  have g1:=jQ HBA.out HG1.out
  have g2:=jQ HBA.out HG2.out
  have hA1:=(HR.out.below HBA.out).c1
  have hA0:=(HR.out.below HBA.out).c0
  have HRA:=jH (HR.out.below HBA.out)
  have HX0:=jH (HE0.out.below HBA.out)
  have HX2:=jH (HE2.out.below HBA.out)
  have hT1:=zp (W:=wq.drew) (HX0.out.below ((Below.refl _ _).drew)) (HEA.out.below ((Below.refl _ _).drew))
  have HK:Hid (∀ w':World,Below wq.heap.size wq w'→(fun w'=>w'.cell? ⟨p,1,none⟩=some (.slice (some ⟨gb,0,none⟩) G.length gc)∧(w'.cell? ⟨W.heap.size+1,0,none⟩=some (.pointer eu)∧w'.cell? ⟨W.heap.size+1,1,none⟩=some (.pointer ev)∧w'.cell? ⟨W.heap.size+1,2,none⟩=some (.pointer em))∧(w'.cell? ⟨gb,(i+2)*3,none⟩=some (.pointer t2.1)∧w'.cell? ⟨gb,(i+2)*3+1,none⟩=some (.pointer t2.2.1)∧w'.cell? ⟨gb,(i+2)*3+2,none⟩=some (.pointer t2.2.2))∧w'.cell? ⟨gb,i*3,none⟩=some (.pointer t0.1)∧w'.cell? ⟨gb,i*3+1,none⟩=some (.pointer t0.2.1)∧w'.cell? ⟨gb,i*3+2,none⟩=some (.pointer t0.2.2)) w'):=fun w' hb=>by
   have hy:=Below.here hb YA.out
   have hbw:=Below.trans' HBA.out hb
   refine⟨(HRA.out.below hb).c1,⟨by rw[jB hy];rfl,by rw[jB hy];rfl,by rw[jB hy];rfl⟩,⟨jQ hbw HG3.out,jQ hbw HG4.out,jQ hbw HG5.out⟩,jQ hbw HG0.out,jQ hbw HG1.out,jQ hbw HG2.out⟩
  refine qw (S:=fun w'=>w'.cell? ⟨p,1,none⟩=some (.slice (some ⟨gb,0,none⟩) G.length gc)∧(w'.cell? ⟨W.heap.size+1,0,none⟩=some (.pointer eu)∧w'.cell? ⟨W.heap.size+1,1,none⟩=some (.pointer ev)∧w'.cell? ⟨W.heap.size+1,2,none⟩=some (.pointer em))∧(w'.cell? ⟨gb,(i+2)*3,none⟩=some (.pointer t2.1)∧w'.cell? ⟨gb,(i+2)*3+1,none⟩=some (.pointer t2.2.1)∧w'.cell? ⟨gb,(i+2)*3+2,none⟩=some (.pointer t2.2.2))∧w'.cell? ⟨gb,i*3,none⟩=some (.pointer t0.1)∧w'.cell? ⟨gb,i*3+1,none⟩=some (.pointer t0.2.1)∧w'.cell? ⟨gb,i*3+2,none⟩=some (.pointer t0.2.2)) (late:=[24]) (by kernel_rfl) ?_ (fun hHeld=>?_)
  ·
   exact HK.out wq.drew ((Below.refl _ _).drew)
  refine jC (i:=0) (v:=?_) rfl (by kernel_rfl) (by kernel_rfl) (by kernel_rfl) (by kernel_rfl) (by kernel_rfl) (fun _ _ _ h=>h) (Or.inl ⟨by rfl,?_⟩) (by assumption) ?_
  rotate_left
  ·(intro w hSw; (try dsimp only at hSw);go_simp)
   all_goals with_reducible rfl
  try go_frame
  refine jC (i:=1) (v:=?_) rfl (by kernel_rfl) (by kernel_rfl) (by kernel_rfl) (by kernel_rfl) (by kernel_rfl) (fun _ _ _ h=>h) (Or.inl ⟨by rfl,?_⟩) (by assumption) ?_
  rotate_left
  ·(intro w hSw; (try dsimp only at hSw);go_simp)
   all_goals with_reducible rfl
  try go_frame
  refine jC (i:=2) (v:=?_) rfl (by kernel_rfl) (by kernel_rfl) (by kernel_rfl) (by kernel_rfl) (by kernel_rfl) (fun _ _ _ h=>h) (Or.inl ⟨by rfl,?_⟩) (by assumption) ?_
  rotate_left
  ·(intro w hSw; (try dsimp only at hSw);go_simp)
   all_goals with_reducible rfl
  try go_frame
  refine jC (i:=3) (v:=?_) rfl (by kernel_rfl) (by kernel_rfl) (by kernel_rfl) (by kernel_rfl) (by kernel_rfl) (fun _ _ _ h=>h) (Or.inl ⟨by rfl,?_⟩) (by assumption) ?_
  rotate_left
  ·(intro w hSw; (try dsimp only at hSw);go_simp)
   all_goals with_reducible rfl
  try go_frame
  refine jC (i:=4) (v:=?_) rfl (by kernel_rfl) (by kernel_rfl) (by kernel_rfl) (by kernel_rfl) (by kernel_rfl) (fun _ _ _ h=>h) (Or.inl ⟨by rfl,?_⟩) (by assumption) ?_
  rotate_left
  ·(intro w hSw; (try dsimp only at hSw);go_simp)
   all_goals with_reducible rfl
  try go_frame
  refine jC (i:=5) (v:=?_) rfl (by kernel_rfl) (by kernel_rfl) (by kernel_rfl) (by kernel_rfl) (by kernel_rfl) (fun _ _ _ h=>h) (Or.inl ⟨by rfl,?_⟩) (by assumption) ?_
  rotate_left
  ·(intro w hSw; (try dsimp only at hSw);go_simp)
   all_goals with_reducible rfl
  try go_frame
  refine jC (i:=6) (v:=?_) rfl (by kernel_rfl) (by kernel_rfl) (by kernel_rfl) (by kernel_rfl) (by kernel_rfl) (fun _ _ _ h=>h) (Or.inl ⟨by rfl,?_⟩) (by assumption) ?_
  rotate_left
  ·(intro w hSw; (try dsimp only at hSw);go_simp)
   all_goals with_reducible rfl
  try go_frame
  refine jC (i:=7) (v:=?_) rfl (by kernel_rfl) (by kernel_rfl) (by kernel_rfl) (by kernel_rfl) (by kernel_rfl) (fun _ _ _ h=>h) (Or.inl ⟨by rfl,?_⟩) (by assumption) ?_
  rotate_left
  ·(intro w hSw; (try dsimp only at hSw);go_simp)
   all_goals with_reducible rfl
  try go_frame
  refine jC (i:=8) (v:=?_) rfl (by kernel_rfl) (by kernel_rfl) (by kernel_rfl) (by kernel_rfl) (by kernel_rfl) (fun _ _ _ h=>h) (Or.inl ⟨by rfl,?_⟩) (by assumption) ?_
  rotate_left
  ·(intro w hSw; (try dsimp only at hSw);go_simp)
   all_goals with_reducible rfl
  try go_frame
  refine jC (i:=9) (v:=?_) rfl (by kernel_rfl) (by kernel_rfl) (by kernel_rfl) (by kernel_rfl) (by kernel_rfl) (fun _ _ _ h=>h) (Or.inl ⟨by rfl,?_⟩) (by assumption) ?_
  rotate_left
  ·(intro w hSw; (try dsimp only at hSw);go_simp)
   all_goals with_reducible rfl
  try go_frame
  refine jC (i:=10) (v:=?_) rfl (by kernel_rfl) (by kernel_rfl) (by kernel_rfl) (by kernel_rfl) (by kernel_rfl) (fun _ _ _ h=>h) (Or.inl ⟨by rfl,?_⟩) (by assumption) ?_
  rotate_left
  ·(intro w hSw; (try dsimp only at hSw);go_simp)
   all_goals with_reducible rfl
  try go_frame
  refine jC (i:=11) (v:=?_) rfl (by kernel_rfl) (by kernel_rfl) (by kernel_rfl) (by kernel_rfl) (by kernel_rfl) (fun _ _ _ h=>h) (Or.inl ⟨by rfl,?_⟩) (by assumption) ?_
  rotate_left
  ·(intro w hSw; (try dsimp only at hSw);go_simp)
   all_goals with_reducible rfl
  try go_frame
  refine jC (i:=12) (v:=?_) rfl (by kernel_rfl) (by kernel_rfl) (by kernel_rfl) (by kernel_rfl) (by kernel_rfl) (fun _ _ _ h=>h) (Or.inl ⟨by rfl,?_⟩) (by assumption) ?_
  rotate_left
  ·(intro w hSw; (try dsimp only at hSw);go_simp)
   all_goals with_reducible rfl
  try go_frame
  refine jC (i:=14) (v:=?_) rfl (by kernel_rfl) (by kernel_rfl) (by kernel_rfl) (by kernel_rfl) (by kernel_rfl) (fun _ _ _ h=>h) (Or.inl ⟨by rfl,?_⟩) (by assumption) ?_
  rotate_left
  ·(intro w hSw; (try dsimp only at hSw);go_simp)
   all_goals with_reducible rfl
  try go_frame
  refine jC (i:=15) (v:=?_) rfl (by kernel_rfl) (by kernel_rfl) (by kernel_rfl) (by kernel_rfl) (by kernel_rfl) (fun _ _ _ h=>h) (Or.inl ⟨by rfl,?_⟩) (by assumption) ?_
  rotate_left
  ·(intro w hSw; (try dsimp only at hSw);go_simp)
   all_goals with_reducible rfl
  try go_frame
  refine jC (i:=16) (v:=?_) rfl (by kernel_rfl) (by kernel_rfl) (by kernel_rfl) (by kernel_rfl) (by kernel_rfl) (fun _ _ _ h=>h) (Or.inl ⟨by rfl,?_⟩) (by assumption) ?_
  rotate_left
  ·(intro w hSw; (try dsimp only at hSw);go_simp)
   all_goals with_reducible rfl
  try go_frame
  refine jC (i:=17) (v:=?_) rfl (by kernel_rfl) (by kernel_rfl) (by kernel_rfl) (by kernel_rfl) (by kernel_rfl) (fun _ _ _ h=>h) (Or.inl ⟨by rfl,?_⟩) (by assumption) ?_
  rotate_left
  ·(intro w hSw; (try dsimp only at hSw);go_simp)
   all_goals with_reducible rfl
  try go_frame
  refine jC (i:=18) (v:=?_) rfl (by kernel_rfl) (by kernel_rfl) (by kernel_rfl) (by kernel_rfl) (by kernel_rfl) (fun _ _ _ h=>h) (Or.inl ⟨by rfl,?_⟩) (by assumption) ?_
  rotate_left
  ·(intro w hSw; (try dsimp only at hSw);go_simp)
   all_goals with_reducible rfl
  try go_frame
  refine jC (i:=19) (v:=?_) rfl (by kernel_rfl) (by kernel_rfl) (by kernel_rfl) (by kernel_rfl) (by kernel_rfl) (fun _ _ _ h=>h) (Or.inl ⟨by rfl,?_⟩) (by assumption) ?_
  rotate_left
  ·(intro w hSw; (try dsimp only at hSw);go_simp)
   all_goals with_reducible rfl
  try go_frame
  refine jC (i:=20) (v:=?_) rfl (by kernel_rfl) (by kernel_rfl) (by kernel_rfl) (by kernel_rfl) (by kernel_rfl) (fun _ _ _ h=>h) (Or.inl ⟨by rfl,?_⟩) (by assumption) ?_
  rotate_left
  ·(intro w hSw; (try dsimp only at hSw);go_simp)
   all_goals with_reducible rfl
  try go_frame
  refine jC (i:=21) (v:=?_) rfl (by kernel_rfl) (by kernel_rfl) (by kernel_rfl) (by kernel_rfl) (by kernel_rfl) (fun _ _ _ h=>h) (Or.inl ⟨by rfl,?_⟩) (by assumption) ?_
  rotate_left
  ·(intro w hSw; (try dsimp only at hSw);go_simp)
   all_goals with_reducible rfl
  try go_frame
  refine qJ (i:=13) rfl (by kernel_rfl) (fun K hK=>?_)
  go_simp
  go_wp2_with (
   go_at_call 56
   refine hT1.mono ?_
   rintro e w9 (⟨hok9,pu,pv,pm,rfl,hie9,hb9⟩ | ⟨hno,rfl,hb9⟩)
   rotate_left
   ·refine And.intro rfl ?_
    exact Or.inr ⟨fun h=>hno h.2.1,rfl,Below.trans' HBA.out (Below.trans' ((Below.refl _ _).drew) hb9.out)⟩
   have HO9:=jH hok9
   have HB9:=jH (Below.trans' (W:=wq) ((Below.refl _ _).drew) hb9.out)
   have hT2:=zp (W:=w9) hie9.out (HX2.out.below HB9.out)
   clear hb9 hie9 hT1 hok9
   )
  refine hK.out _ _ ?_ (fun hHeld1=>?_)
  ·
   exact HK.out w9 HB9.out
  clear hK K hHeld
  try go_frame
  refine qJ (i:=22) rfl (by kernel_rfl) (fun K hK=>?_)
  go_simp
  go_wp2_with (
   go_at_call 56
   refine hT2.mono ?_
   rintro e w8 (⟨hok8,ru,rv,rm,rfl,hie8,hb8⟩ | ⟨hno,rfl,hb8⟩)
   rotate_left
   ·refine And.intro rfl ?_
    exact Or.inr ⟨fun h=>hno h.2.2,rfl,Below.trans' HBA.out (Below.trans' HB9.out hb8.out)⟩
   have HO8:=jH hok8
   have HB8:=jH (Below.trans' HB9.out hb8.out)
   have HIE8:=jH hie8.out
   have q0:=(HRA.out.below HB8.out).freeG (i*3)
   have q1:=(HRA.out.below HB8.out).freeG (i*3+1)
   have q2:=(HRA.out.below HB8.out).freeG (i*3+2)
   have m0:=jQ (Below.trans' HBA.out HB8.out) HG0.out
   have m1:=jQ (Below.trans' HBA.out HB8.out) HG1.out
   have m2:=jQ (Below.trans' HBA.out HB8.out) HG2.out
   clear hb8 hie8 hok8 hT2
   )
  refine hK.out _ _ ?_ (fun hHeld2=>?_)
  ·
   exact HK.out w8 HB8.out
  clear hK K hHeld1
  try go_frame
  refine jC (i:=23) (v:=?_) rfl (by kernel_rfl) (by kernel_rfl) (by kernel_rfl) (by kernel_rfl) (by kernel_rfl) (fun _ _ _ h=>h) (Or.inl ⟨by rfl,?_⟩) (by assumption) ?_
  rotate_left
  ·(intro w hSw; (try dsimp only at hSw);go_simp)
   all_goals with_reducible rfl
  try go_frame
  refine zH (i:=24) rfl (by kernel_rfl) rfl (fun K hK=>?_)
  go_simp
  refine hK.out _ _ ?_
  clear hK K
  try go_frame
  refine zZ (by kernel_rfl) ?_ _
  have HRS0:=jH ((HRA.out.below HB8.out).put (i:=i) (t:=⟨ru,rv,rm⟩) (by have:=HR.out.len; omega) HIE8.out)
  have HFS0:Hid (Fr [p,ob,gb] W (((w8.setCell ⟨gb,i*3,none⟩ (.pointer ru)).setCell ⟨gb,i*3+1,none⟩ (.pointer rv)).setCell ⟨gb,i*3+2,none⟩ (.pointer rm))) :=
   (((Fr.of_below (Below.trans' HBA.out HB8.out)).pre (je _ _ (by simp))).pre (je _ _ (by simp))).pre (je _ _ (by simp))
  obtain⟨wS,hwS⟩:∃ wS,wS=((w8.setCell ⟨gb,i*3,none⟩ (.pointer ru)).setCell ⟨gb,i*3+1,none⟩ (.pointer rv)).setCell ⟨gb,i*3+2,none⟩ (.pointer rm):=⟨_,rfl⟩
  have HRS:Hid (Rd B wS p (.slice (some ⟨ob,0,none⟩) o.length oc) (.slice (some ⟨gb,0,none⟩) G.length gc) (l.set i ⟨ru,rv,rm⟩) o (G.set i (pinX c k x0 x2))):=by
   show Rd _ _ _ _ _ _ _ _; rw[hwS];exact HRS0.out
  have HFS:Hid (Fr [p,ob,gb] W wS):=by show Fr _ _ _; rw[hwS];exact HFS0.out
  rw[← hwS]
  clear hwS HRS0 HFS0 q0 q1 q2 m0 m1 m2 hA1 hA0 g0 g1 g2 HK
  have hrow:wS.ownsRow 0 28 3 (.slice (some ⟨gb,0,none⟩) G.length gc) G.length (qcl (l.set i ⟨ru,rv,rm⟩)):=by
   have h:=HRS.out.row
   rw[HRS.out.len,List.length_set] at h; exact h
  have hDel:=delE_calls (i:=i+1) (j:=i+3) hrow (qcl_one _) (by omega) (by omega)
  obtain⟨n',hn'⟩:∃ n',n'=G.length - (i+3 - (i+1)):=⟨_,rfl⟩
  rw[← hn',show ((i+1:Nat):Int)=(i:Int)+1 by omega,show ((i+3:Nat):Int)=(i:Int)+3 by omega] at hDel
  have b1:=HRS.out.c1
  have HN':=jH hn'
  clear hrow hn'
  go_wp2_with fail
  refine hDel.mono ?_
  rintro e w10 ⟨rfl,hr10,hf10⟩
  have hobj10:Hid (w10.heap[p]? = some (.cells #[.slice (some ⟨ob,0,none⟩) o.length oc,.slice (some ⟨gb,0,none⟩) G.length gc] 152 (0,0))):=by
   have hlt:=(jA HRS.out.obj).1
   have hpg:p≠gb:=by
    obtain⟨cur,hg,-⟩:=yR (n:=G.length) (by have h:=HRS.out.row; rw[HRS.out.len,List.length_set] at h; exact h)
    exact jI HRS.out.obj hg (by decide)
   exact (hf10.out.block p hlt (by simpa using hpg)).trans HRS.out.obj
  have b10:w10.cell? ⟨p,1,none⟩=some (.slice (some ⟨gb,0,none⟩) G.length gc):=by rw[jB hobj10.out];rfl
  have b10o:w10.cell? ⟨p,0,none⟩=some (.slice (some ⟨ob,0,none⟩) o.length oc):=by rw[jB hobj10.out];rfl
  have f10:=jF hobj10.out 1
  have HR11:Hid (Rd B (w10.setCell ⟨p,1,none⟩ (.slice (some ⟨gb,0,none⟩) n' gc)) p (.slice (some ⟨ob,0,none⟩) o.length oc) (.slice (some ⟨gb,0,none⟩) n' gc) ((l.set i ⟨ru,rv,rm⟩).take (i+1)++(l.set i ⟨ru,rv,rm⟩).drop (i+3)) o ((G.set i (pinX c k x0 x2)).take (i+1)++(G.set i (pinX c k x0 x2)).drop (i+3))) :=
   HRS.out.cutG hf10.out (by omega) (by rw[HRS.out.len,List.length_set];omega) hr10.out
  have HF11:Hid (Fr [p,ob,gb] W (w10.setCell ⟨p,1,none⟩ (.slice (some ⟨gb,0,none⟩) n' gc))):=(HFS.out.pre (hf10.out.more (by simp))).pre (je _ _ (by simp))
  clear hDel hr10 hf10 b1
  go_wp2_with fail
  clear b10 f10 b10o
  obtain⟨w11,hw11⟩:∃ w11,w11=w10.setCell ⟨p,1,none⟩ (.slice (some ⟨gb,0,none⟩) n' gc):=⟨_,rfl⟩
  rw[← hw11] at HR11 HF11 ⊢
  clear hw11
  have hrow:=HR11.out.out
  have hDel:=delB_calls (i:=i) (j:=i+2) (g:=ob) (n:=o.length) (cap:=oc) hrow (by intro u hu; obtain⟨b,_,rfl⟩:=List.mem_map.1 hu; rfl) (by omega) (by omega)
  obtain⟨n2,hn2⟩:∃ n2,n2=o.length - (i+2 - i):=⟨_,rfl⟩
  rw[← hn2,show ((i+2:Nat):Int)=(i:Int)+2 by omega] at hDel
  have HN2:=jH hn2
  clear hrow hn2
  refine hDel.mono ?_
  rintro e w12 ⟨rfl,hr12,hf12⟩
  have hobj12:Hid (w12.heap[p]? = some (.cells #[.slice (some ⟨ob,0,none⟩) o.length oc,.slice (some ⟨gb,0,none⟩) n' gc] 152 (0,0))):=by
   have hlt:=(jA HR11.out.obj).1
   have hpg:p≠ob:=by
    obtain⟨cur,hg,-⟩:=yR HR11.out.out
    exact jI HR11.out.obj hg (by decide)
   exact (hf12.out.block p hlt (by simpa using hpg)).trans HR11.out.obj
  have b10:w12.cell? ⟨p,0,none⟩=some (.slice (some ⟨ob,0,none⟩) o.length oc):=by rw[jB hobj12.out];rfl
  have f10:=jF hobj12.out 0
  have HR13:Hid (Rd B (w12.setCell ⟨p,0,none⟩ (.slice (some ⟨ob,0,none⟩) n2 oc)) p (.slice (some ⟨ob,0,none⟩) n2 oc) (.slice (some ⟨gb,0,none⟩) n' gc) ((l.set i ⟨ru,rv,rm⟩).take (i+1)++(l.set i ⟨ru,rv,rm⟩).drop (i+3)) (o.take i++o.drop (i+2)) ((G.set i (pinX c k x0 x2)).take (i+1)++(G.set i (pinX c k x0 x2)).drop (i+3))) :=
   HR11.out.cutO hf12.out (by omega) (by omega) hr12.out
  have HF13:Hid (Fr [p,ob,gb] W (w12.setCell ⟨p,0,none⟩ (.slice (some ⟨ob,0,none⟩) n2 oc))):=(HF11.out.pre (hf12.out.more (by simp))).pre (je _ _ (by simp))
  clear hDel hr12 hf12
  go_wp2_with fail
  go_end0
  refine Or.inl ⟨⟨HOKP.out,HO9.out,HO8.out⟩,ob,gb,rfl,rfl,rfl,.slice (some ⟨ob,0,none⟩) n2 oc,.slice (some ⟨gb,0,none⟩) n' gc,(l.set i ⟨ru,rv,rm⟩).take (i+1)++(l.set i ⟨ru,rv,rm⟩).drop (i+3),?_,⟨rfl,rfl⟩,HF13⟩
  show Rd _ _ _ _ _ _ _ _
  have h:=HR13.out
  rw[cut_set (G:=G) (by omega)] at h
  exact h
 ·have hb1:decide ((c.toNat:Int)=66)=false:=by
   simp only[decide_eq_false_iff_not];intro h; exact hb (UInt8.toNat_inj.1 (by show _=66; omega))
  have hb2:((c.toNat:Int)==66)=false:=by simpa using hb1
  have HPE:Hid (pinE c k=⟨0,0,k⟩):=by show _=_; unfold pinE; rw[if_neg hb]
  have HOKP:Hid (c=66→plainOK k 0):=fun h=>absurd h hb
  clear hb
  go_wp2_with fail
  have YA:Hid (W2.heap[W.heap.size+1]? = some (.cells #[.pointer none,.pointer none,.pointer qk] 28 (0,0))):=HH.out (W.heap.size+1,#[.pointer none,.pointer none,.pointer qk],28) (by simp)
  have HEA:Hid (IsE W2 (.agg #[.pointer none,.pointer none,.pointer qk]) (pinE c k)):=by
   show IsE _ _ _
   rw[HPE.out];exact⟨none,none,qk,rfl,j4 _,j4 _,HK0.out.below HB2.out⟩
  have HBA:=HB2
  rw[show (W.alloc (.cells #[.pointer qk] 26)).alloc (.cells #[.pointer none,.pointer none,.pointer qk] 28)=W2 from HW2.out.symm]
  clear a0 a1 bc
  have g0:=jQ HBA.out HG0.out
  have g1:=jQ HBA.out HG1.out
  have g2:=jQ HBA.out HG2.out
  have hA1:=(HR.out.below HBA.out).c1
  have hA0:=(HR.out.below HBA.out).c0
  have HRA:=jH (HR.out.below HBA.out)
  have HX0:=jH (HE0.out.below HBA.out)
  have HX2:=jH (HE2.out.below HBA.out)
  have hT1:=zp (W:=W2.drew) (HX0.out.below ((Below.refl _ _).drew)) (HEA.out.below ((Below.refl _ _).drew))
  have HK:Hid (∀ w':World,Below W2.heap.size W2 w'→(fun w'=>w'.cell? ⟨p,1,none⟩=some (.slice (some ⟨gb,0,none⟩) G.length gc)∧(w'.cell? ⟨W.heap.size+1,0,none⟩=some (.pointer none)∧w'.cell? ⟨W.heap.size+1,1,none⟩=some (.pointer none)∧w'.cell? ⟨W.heap.size+1,2,none⟩=some (.pointer qk))∧(w'.cell? ⟨gb,(i+2)*3,none⟩=some (.pointer t2.1)∧w'.cell? ⟨gb,(i+2)*3+1,none⟩=some (.pointer t2.2.1)∧w'.cell? ⟨gb,(i+2)*3+2,none⟩=some (.pointer t2.2.2))∧w'.cell? ⟨gb,i*3,none⟩=some (.pointer t0.1)∧w'.cell? ⟨gb,i*3+1,none⟩=some (.pointer t0.2.1)∧w'.cell? ⟨gb,i*3+2,none⟩=some (.pointer t0.2.2)) w'):=fun w' hb=>by
   have hy:=Below.here hb YA.out
   have hbw:=Below.trans' HBA.out hb
   refine⟨(HRA.out.below hb).c1,⟨by rw[jB hy];rfl,by rw[jB hy];rfl,by rw[jB hy];rfl⟩,⟨jQ hbw HG3.out,jQ hbw HG4.out,jQ hbw HG5.out⟩,jQ hbw HG0.out,jQ hbw HG1.out,jQ hbw HG2.out⟩
  refine qw (S:=fun w'=>w'.cell? ⟨p,1,none⟩=some (.slice (some ⟨gb,0,none⟩) G.length gc)∧(w'.cell? ⟨W.heap.size+1,0,none⟩=some (.pointer none)∧w'.cell? ⟨W.heap.size+1,1,none⟩=some (.pointer none)∧w'.cell? ⟨W.heap.size+1,2,none⟩=some (.pointer qk))∧(w'.cell? ⟨gb,(i+2)*3,none⟩=some (.pointer t2.1)∧w'.cell? ⟨gb,(i+2)*3+1,none⟩=some (.pointer t2.2.1)∧w'.cell? ⟨gb,(i+2)*3+2,none⟩=some (.pointer t2.2.2))∧w'.cell? ⟨gb,i*3,none⟩=some (.pointer t0.1)∧w'.cell? ⟨gb,i*3+1,none⟩=some (.pointer t0.2.1)∧w'.cell? ⟨gb,i*3+2,none⟩=some (.pointer t0.2.2)) (late:=[24]) (by kernel_rfl) ?_ (fun hHeld=>?_)
  ·
   exact HK.out W2.drew ((Below.refl _ _).drew)
  refine jC (i:=0) (v:=?_) rfl (by kernel_rfl) (by kernel_rfl) (by kernel_rfl) (by kernel_rfl) (by kernel_rfl) (fun _ _ _ h=>h) (Or.inl ⟨by rfl,?_⟩) (by assumption) ?_
  rotate_left
  ·(intro w hSw; (try dsimp only at hSw);go_simp)
   all_goals with_reducible rfl
  try go_frame
  refine jC (i:=1) (v:=?_) rfl (by kernel_rfl) (by kernel_rfl) (by kernel_rfl) (by kernel_rfl) (by kernel_rfl) (fun _ _ _ h=>h) (Or.inl ⟨by rfl,?_⟩) (by assumption) ?_
  rotate_left
  ·(intro w hSw; (try dsimp only at hSw);go_simp)
   all_goals with_reducible rfl
  try go_frame
  refine jC (i:=2) (v:=?_) rfl (by kernel_rfl) (by kernel_rfl) (by kernel_rfl) (by kernel_rfl) (by kernel_rfl) (fun _ _ _ h=>h) (Or.inl ⟨by rfl,?_⟩) (by assumption) ?_
  rotate_left
  ·(intro w hSw; (try dsimp only at hSw);go_simp)
   all_goals with_reducible rfl
  try go_frame
  refine jC (i:=3) (v:=?_) rfl (by kernel_rfl) (by kernel_rfl) (by kernel_rfl) (by kernel_rfl) (by kernel_rfl) (fun _ _ _ h=>h) (Or.inl ⟨by rfl,?_⟩) (by assumption) ?_
  rotate_left
  ·(intro w hSw; (try dsimp only at hSw);go_simp)
   all_goals with_reducible rfl
  try go_frame
  refine jC (i:=4) (v:=?_) rfl (by kernel_rfl) (by kernel_rfl) (by kernel_rfl) (by kernel_rfl) (by kernel_rfl) (fun _ _ _ h=>h) (Or.inl ⟨by rfl,?_⟩) (by assumption) ?_
  rotate_left
  ·(intro w hSw; (try dsimp only at hSw);go_simp)
   all_goals with_reducible rfl
  try go_frame
  refine jC (i:=5) (v:=?_) rfl (by kernel_rfl) (by kernel_rfl) (by kernel_rfl) (by kernel_rfl) (by kernel_rfl) (fun _ _ _ h=>h) (Or.inl ⟨by rfl,?_⟩) (by assumption) ?_
  rotate_left
  ·(intro w hSw; (try dsimp only at hSw);go_simp)
   all_goals with_reducible rfl
  try go_frame
  refine jC (i:=6) (v:=?_) rfl (by kernel_rfl) (by kernel_rfl) (by kernel_rfl) (by kernel_rfl) (by kernel_rfl) (fun _ _ _ h=>h) (Or.inl ⟨by rfl,?_⟩) (by assumption) ?_
  rotate_left
  ·(intro w hSw; (try dsimp only at hSw);go_simp)
   all_goals with_reducible rfl
  try go_frame
  refine jC (i:=7) (v:=?_) rfl (by kernel_rfl) (by kernel_rfl) (by kernel_rfl) (by kernel_rfl) (by kernel_rfl) (fun _ _ _ h=>h) (Or.inl ⟨by rfl,?_⟩) (by assumption) ?_
  rotate_left
  ·(intro w hSw; (try dsimp only at hSw);go_simp)
   all_goals with_reducible rfl
  try go_frame
  refine jC (i:=8) (v:=?_) rfl (by kernel_rfl) (by kernel_rfl) (by kernel_rfl) (by kernel_rfl) (by kernel_rfl) (fun _ _ _ h=>h) (Or.inl ⟨by rfl,?_⟩) (by assumption) ?_
  rotate_left
  ·(intro w hSw; (try dsimp only at hSw);go_simp)
   all_goals with_reducible rfl
  try go_frame
  refine jC (i:=9) (v:=?_) rfl (by kernel_rfl) (by kernel_rfl) (by kernel_rfl) (by kernel_rfl) (by kernel_rfl) (fun _ _ _ h=>h) (Or.inl ⟨by rfl,?_⟩) (by assumption) ?_
  rotate_left
  ·(intro w hSw; (try dsimp only at hSw);go_simp)
   all_goals with_reducible rfl
  try go_frame
  refine jC (i:=10) (v:=?_) rfl (by kernel_rfl) (by kernel_rfl) (by kernel_rfl) (by kernel_rfl) (by kernel_rfl) (fun _ _ _ h=>h) (Or.inl ⟨by rfl,?_⟩) (by assumption) ?_
  rotate_left
  ·(intro w hSw; (try dsimp only at hSw);go_simp)
   all_goals with_reducible rfl
  try go_frame
  refine jC (i:=11) (v:=?_) rfl (by kernel_rfl) (by kernel_rfl) (by kernel_rfl) (by kernel_rfl) (by kernel_rfl) (fun _ _ _ h=>h) (Or.inl ⟨by rfl,?_⟩) (by assumption) ?_
  rotate_left
  ·(intro w hSw; (try dsimp only at hSw);go_simp)
   all_goals with_reducible rfl
  try go_frame
  refine jC (i:=12) (v:=?_) rfl (by kernel_rfl) (by kernel_rfl) (by kernel_rfl) (by kernel_rfl) (by kernel_rfl) (fun _ _ _ h=>h) (Or.inl ⟨by rfl,?_⟩) (by assumption) ?_
  rotate_left
  ·(intro w hSw; (try dsimp only at hSw);go_simp)
   all_goals with_reducible rfl
  try go_frame
  refine jC (i:=14) (v:=?_) rfl (by kernel_rfl) (by kernel_rfl) (by kernel_rfl) (by kernel_rfl) (by kernel_rfl) (fun _ _ _ h=>h) (Or.inl ⟨by rfl,?_⟩) (by assumption) ?_
  rotate_left
  ·(intro w hSw; (try dsimp only at hSw);go_simp)
   all_goals with_reducible rfl
  try go_frame
  refine jC (i:=15) (v:=?_) rfl (by kernel_rfl) (by kernel_rfl) (by kernel_rfl) (by kernel_rfl) (by kernel_rfl) (fun _ _ _ h=>h) (Or.inl ⟨by rfl,?_⟩) (by assumption) ?_
  rotate_left
  ·(intro w hSw; (try dsimp only at hSw);go_simp)
   all_goals with_reducible rfl
  try go_frame
  refine jC (i:=16) (v:=?_) rfl (by kernel_rfl) (by kernel_rfl) (by kernel_rfl) (by kernel_rfl) (by kernel_rfl) (fun _ _ _ h=>h) (Or.inl ⟨by rfl,?_⟩) (by assumption) ?_
  rotate_left
  ·(intro w hSw; (try dsimp only at hSw);go_simp)
   all_goals with_reducible rfl
  try go_frame
  refine jC (i:=17) (v:=?_) rfl (by kernel_rfl) (by kernel_rfl) (by kernel_rfl) (by kernel_rfl) (by kernel_rfl) (fun _ _ _ h=>h) (Or.inl ⟨by rfl,?_⟩) (by assumption) ?_
  rotate_left
  ·(intro w hSw; (try dsimp only at hSw);go_simp)
   all_goals with_reducible rfl
  try go_frame
  refine jC (i:=18) (v:=?_) rfl (by kernel_rfl) (by kernel_rfl) (by kernel_rfl) (by kernel_rfl) (by kernel_rfl) (fun _ _ _ h=>h) (Or.inl ⟨by rfl,?_⟩) (by assumption) ?_
  rotate_left
  ·(intro w hSw; (try dsimp only at hSw);go_simp)
   all_goals with_reducible rfl
  try go_frame
  refine jC (i:=19) (v:=?_) rfl (by kernel_rfl) (by kernel_rfl) (by kernel_rfl) (by kernel_rfl) (by kernel_rfl) (fun _ _ _ h=>h) (Or.inl ⟨by rfl,?_⟩) (by assumption) ?_
  rotate_left
  ·(intro w hSw; (try dsimp only at hSw);go_simp)
   all_goals with_reducible rfl
  try go_frame
  refine jC (i:=20) (v:=?_) rfl (by kernel_rfl) (by kernel_rfl) (by kernel_rfl) (by kernel_rfl) (by kernel_rfl) (fun _ _ _ h=>h) (Or.inl ⟨by rfl,?_⟩) (by assumption) ?_
  rotate_left
  ·(intro w hSw; (try dsimp only at hSw);go_simp)
   all_goals with_reducible rfl
  try go_frame
  refine jC (i:=21) (v:=?_) rfl (by kernel_rfl) (by kernel_rfl) (by kernel_rfl) (by kernel_rfl) (by kernel_rfl) (fun _ _ _ h=>h) (Or.inl ⟨by rfl,?_⟩) (by assumption) ?_
  rotate_left
  ·(intro w hSw; (try dsimp only at hSw);go_simp)
   all_goals with_reducible rfl
  try go_frame
  refine qJ (i:=13) rfl (by kernel_rfl) (fun K hK=>?_)
  go_simp
  go_wp2_with (
   go_at_call 56
   refine hT1.mono ?_
   rintro e w9 (⟨hok9,pu,pv,pm,rfl,hie9,hb9⟩ | ⟨hno,rfl,hb9⟩)
   rotate_left
   ·refine And.intro rfl ?_
    exact Or.inr ⟨fun h=>hno h.2.1,rfl,Below.trans' HBA.out (Below.trans' ((Below.refl _ _).drew) hb9.out)⟩
   have HO9:=jH hok9
   have HB9:=jH (Below.trans' (W:=W2) ((Below.refl _ _).drew) hb9.out)
   have hT2:=zp (W:=w9) hie9.out (HX2.out.below HB9.out)
   clear hb9 hie9 hT1 hok9
   )
  refine hK.out _ _ ?_ (fun hHeld1=>?_)
  ·
   exact HK.out w9 HB9.out
  clear hK K hHeld
  try go_frame
  refine qJ (i:=22) rfl (by kernel_rfl) (fun K hK=>?_)
  go_simp
  go_wp2_with (
   go_at_call 56
   refine hT2.mono ?_
   rintro e w8 (⟨hok8,ru,rv,rm,rfl,hie8,hb8⟩ | ⟨hno,rfl,hb8⟩)
   rotate_left
   ·refine And.intro rfl ?_
    exact Or.inr ⟨fun h=>hno h.2.2,rfl,Below.trans' HBA.out (Below.trans' HB9.out hb8.out)⟩
   have HO8:=jH hok8
   have HB8:=jH (Below.trans' HB9.out hb8.out)
   have HIE8:=jH hie8.out
   have q0:=(HRA.out.below HB8.out).freeG (i*3)
   have q1:=(HRA.out.below HB8.out).freeG (i*3+1)
   have q2:=(HRA.out.below HB8.out).freeG (i*3+2)
   have m0:=jQ (Below.trans' HBA.out HB8.out) HG0.out
   have m1:=jQ (Below.trans' HBA.out HB8.out) HG1.out
   have m2:=jQ (Below.trans' HBA.out HB8.out) HG2.out
   clear hb8 hie8 hok8 hT2
   )
  refine hK.out _ _ ?_ (fun hHeld2=>?_)
  ·
   exact HK.out w8 HB8.out
  clear hK K hHeld1
  try go_frame
  refine jC (i:=23) (v:=?_) rfl (by kernel_rfl) (by kernel_rfl) (by kernel_rfl) (by kernel_rfl) (by kernel_rfl) (fun _ _ _ h=>h) (Or.inl ⟨by rfl,?_⟩) (by assumption) ?_
  rotate_left
  ·(intro w hSw; (try dsimp only at hSw);go_simp)
   all_goals with_reducible rfl
  try go_frame
  refine zH (i:=24) rfl (by kernel_rfl) rfl (fun K hK=>?_)
  go_simp
  refine hK.out _ _ ?_
  clear hK K
  try go_frame
  refine zZ (by kernel_rfl) ?_ _
  have HRS0:=jH ((HRA.out.below HB8.out).put (i:=i) (t:=⟨ru,rv,rm⟩) (by have:=HR.out.len; omega) HIE8.out)
  have HFS0:Hid (Fr [p,ob,gb] W (((w8.setCell ⟨gb,i*3,none⟩ (.pointer ru)).setCell ⟨gb,i*3+1,none⟩ (.pointer rv)).setCell ⟨gb,i*3+2,none⟩ (.pointer rm))) :=
   (((Fr.of_below (Below.trans' HBA.out HB8.out)).pre (je _ _ (by simp))).pre (je _ _ (by simp))).pre (je _ _ (by simp))
  obtain⟨wS,hwS⟩:∃ wS,wS=((w8.setCell ⟨gb,i*3,none⟩ (.pointer ru)).setCell ⟨gb,i*3+1,none⟩ (.pointer rv)).setCell ⟨gb,i*3+2,none⟩ (.pointer rm):=⟨_,rfl⟩
  have HRS:Hid (Rd B wS p (.slice (some ⟨ob,0,none⟩) o.length oc) (.slice (some ⟨gb,0,none⟩) G.length gc) (l.set i ⟨ru,rv,rm⟩) o (G.set i (pinX c k x0 x2))):=by
   show Rd _ _ _ _ _ _ _ _; rw[hwS];exact HRS0.out
  have HFS:Hid (Fr [p,ob,gb] W wS):=by show Fr _ _ _; rw[hwS];exact HFS0.out
  rw[← hwS]
  clear hwS HRS0 HFS0 q0 q1 q2 m0 m1 m2 hA1 hA0 g0 g1 g2 HK
  have hrow:wS.ownsRow 0 28 3 (.slice (some ⟨gb,0,none⟩) G.length gc) G.length (qcl (l.set i ⟨ru,rv,rm⟩)):=by
   have h:=HRS.out.row
   rw[HRS.out.len,List.length_set] at h; exact h
  have hDel:=delE_calls (i:=i+1) (j:=i+3) hrow (qcl_one _) (by omega) (by omega)
  obtain⟨n',hn'⟩:∃ n',n'=G.length - (i+3 - (i+1)):=⟨_,rfl⟩
  rw[← hn',show ((i+1:Nat):Int)=(i:Int)+1 by omega,show ((i+3:Nat):Int)=(i:Int)+3 by omega] at hDel
  have b1:=HRS.out.c1
  have HN':=jH hn'
  clear hrow hn'
  go_wp2_with fail
  refine hDel.mono ?_
  rintro e w10 ⟨rfl,hr10,hf10⟩
  have hobj10:Hid (w10.heap[p]? = some (.cells #[.slice (some ⟨ob,0,none⟩) o.length oc,.slice (some ⟨gb,0,none⟩) G.length gc] 152 (0,0))):=by
   have hlt:=(jA HRS.out.obj).1
   have hpg:p≠gb:=by
    obtain⟨cur,hg,-⟩:=yR (n:=G.length) (by have h:=HRS.out.row; rw[HRS.out.len,List.length_set] at h; exact h)
    exact jI HRS.out.obj hg (by decide)
   exact (hf10.out.block p hlt (by simpa using hpg)).trans HRS.out.obj
  have b10:w10.cell? ⟨p,1,none⟩=some (.slice (some ⟨gb,0,none⟩) G.length gc):=by rw[jB hobj10.out];rfl
  have b10o:w10.cell? ⟨p,0,none⟩=some (.slice (some ⟨ob,0,none⟩) o.length oc):=by rw[jB hobj10.out];rfl
  have f10:=jF hobj10.out 1
  have HR11:Hid (Rd B (w10.setCell ⟨p,1,none⟩ (.slice (some ⟨gb,0,none⟩) n' gc)) p (.slice (some ⟨ob,0,none⟩) o.length oc) (.slice (some ⟨gb,0,none⟩) n' gc) ((l.set i ⟨ru,rv,rm⟩).take (i+1)++(l.set i ⟨ru,rv,rm⟩).drop (i+3)) o ((G.set i (pinX c k x0 x2)).take (i+1)++(G.set i (pinX c k x0 x2)).drop (i+3))) :=
   HRS.out.cutG hf10.out (by omega) (by rw[HRS.out.len,List.length_set];omega) hr10.out
  have HF11:Hid (Fr [p,ob,gb] W (w10.setCell ⟨p,1,none⟩ (.slice (some ⟨gb,0,none⟩) n' gc))):=(HFS.out.pre (hf10.out.more (by simp))).pre (je _ _ (by simp))
  clear hDel hr10 hf10 b1
  go_wp2_with fail
  clear b10 f10 b10o
  obtain⟨w11,hw11⟩:∃ w11,w11=w10.setCell ⟨p,1,none⟩ (.slice (some ⟨gb,0,none⟩) n' gc):=⟨_,rfl⟩
  rw[← hw11] at HR11 HF11 ⊢
  clear hw11
  have hrow:=HR11.out.out
  have hDel:=delB_calls (i:=i) (j:=i+2) (g:=ob) (n:=o.length) (cap:=oc) hrow (by intro u hu; obtain⟨b,_,rfl⟩:=List.mem_map.1 hu; rfl) (by omega) (by omega)
  obtain⟨n2,hn2⟩:∃ n2,n2=o.length - (i+2 - i):=⟨_,rfl⟩
  rw[← hn2,show ((i+2:Nat):Int)=(i:Int)+2 by omega] at hDel
  have HN2:=jH hn2
  clear hrow hn2
  refine hDel.mono ?_
  rintro e w12 ⟨rfl,hr12,hf12⟩
  have hobj12:Hid (w12.heap[p]? = some (.cells #[.slice (some ⟨ob,0,none⟩) o.length oc,.slice (some ⟨gb,0,none⟩) n' gc] 152 (0,0))):=by
   have hlt:=(jA HR11.out.obj).1
   have hpg:p≠ob:=by
    obtain⟨cur,hg,-⟩:=yR HR11.out.out
    exact jI HR11.out.obj hg (by decide)
   exact (hf12.out.block p hlt (by simpa using hpg)).trans HR11.out.obj
  have b10:w12.cell? ⟨p,0,none⟩=some (.slice (some ⟨ob,0,none⟩) o.length oc):=by rw[jB hobj12.out];rfl
  have f10:=jF hobj12.out 0
  have HR13:Hid (Rd B (w12.setCell ⟨p,0,none⟩ (.slice (some ⟨ob,0,none⟩) n2 oc)) p (.slice (some ⟨ob,0,none⟩) n2 oc) (.slice (some ⟨gb,0,none⟩) n' gc) ((l.set i ⟨ru,rv,rm⟩).take (i+1)++(l.set i ⟨ru,rv,rm⟩).drop (i+3)) (o.take i++o.drop (i+2)) ((G.set i (pinX c k x0 x2)).take (i+1)++(G.set i (pinX c k x0 x2)).drop (i+3))) :=
   HR11.out.cutO hf12.out (by omega) (by omega) hr12.out
  have HF13:Hid (Fr [p,ob,gb] W (w12.setCell ⟨p,0,none⟩ (.slice (some ⟨ob,0,none⟩) n2 oc))):=(HF11.out.pre (hf12.out.more (by simp))).pre (je _ _ (by simp))
  clear hDel hr12 hf12
  go_wp2_with fail
  go_end0
  refine Or.inl ⟨⟨HOKP.out,HO9.out,HO8.out⟩,ob,gb,rfl,rfl,rfl,.slice (some ⟨ob,0,none⟩) n2 oc,.slice (some ⟨gb,0,none⟩) n' gc,(l.set i ⟨ru,rv,rm⟩).take (i+1)++(l.set i ⟨ru,rv,rm⟩).drop (i+3),?_,⟨rfl,rfl⟩,HF13⟩
  show Rd _ _ _ _ _ _ _ _
  have h:=HR13.out
  rw[cut_set (G:=G) (by omega)] at h
  exact h
end
end Sr
