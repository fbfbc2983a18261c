/- Texts of this claim, joined: Word, Stp, Red, Guard2, Shelf, Isw, Lat, RdP, LtP. -/
import Derived.Test.YtabafgphmbdpgaaGreatDoorTe1
import Derived.Test.YtabafgphmbdpgaaGreatDoorTe11
import Derived.Test.YtabafgphmbdpgaaGreatDoorTe17
import Derived.Test.YtabafgphmbdpgaaGreatDoorTe22
import Derived.Test.YtabafgphmbdpgaaGreatDoorTe24
import Derived.Laws.EntriesVeiled
import Derived.Shelf.Strings.Trim
import Derived.Shelf.Small.Utf8
import Derived.Shelf.Small.Bits
import Derived.Shelf.Small.Strs
import Derived.Shelf.Strconv.Itoa0
import Derived.Shelf.Strings.Search1
import Derived.Shelf.Unicode.Decode
import Derived.Shelf.Strings.Runes
import Derived.Shelf.Strings.AsciiSet
import Derived.Shelf.Unicode.DecodeSlow
import Derived.Shelf.Unicode.DecodeAny
import Derived.Shelf.Unicode.DecodeLast
import Derived.Shelf.Bytes.SlSearch0
import Derived.Shelf.Bytes.SlEqualAll
import Derived.Shelf.Bytes.Small
import Derived.Shelf.SlSortCmp.Xorshift
import Derived.Ground.SlsfProg
import Derived.Shelf.SlGeneric
import Derived.Shelf.Strings.SlTrimAscii
set_option maxHeartbeats 8000000
set_option maxRecDepth 100000
namespace Sr
section
abbrev Zero:E3:=⟨0,0,0⟩
def rdStep (s:List UInt8×List E3)(c:UInt8): List UInt8×List E3 :=
 if c=97 then (s.1,s.2.set (s.2.length - 1) (timesE (s.2.getD (s.2.length - 1) Zero) ⟨1,0,0⟩))
 else if c=65 then (s.1,s.2.set (s.2.length - 1) (timesE (s.2.getD (s.2.length - 1) Zero) ⟨-1,0,0⟩))
 else (s.1++[c],s.2++[Zero])
def readE (l:List UInt8): List UInt8×List E3:=l.foldl rdStep ([],[Zero])
theorem rdStep_len {s:List UInt8×List E3}{c:UInt8}(h:s.2.length=s.1.length+1): (rdStep s c).2.length=(rdStep s c).1.length+1:=by
 unfold rdStep; split
 ·simpa using h
 ·split
  ·simpa using h
  ·simp[h]
theorem rdStep_out {s:List UInt8×List E3}{c:UInt8}: (rdStep s c).1.length≤s.1.length+1:=by
 unfold rdStep; split
 ·simp
 ·split <;>simp
def pinAt (o:List UInt8)(G:List E3)(i:Nat): Bool:=decide (o.getD i 0≠o.getD (i+1) 0)&&pinB (o.getD i 0) (G.getD (i+1) Zero)
def pinK (o:List UInt8)(G:List E3)(i:Nat): Int:=powE (o.getD i 0) (G.getD (i+1) Zero)
def pinO (o:List UInt8)(i:Nat): List UInt8:=o.take i++o.drop (i+2)
def pinG (o:List UInt8)(G:List E3)(i:Nat): List E3:=G.take i++[pinX (o.getD i 0) (pinK o G i) (G.getD i Zero) (G.getD (i+2) Zero)]++G.drop (i+3)
def pinA (o:List UInt8)(G:List E3)(i:Nat): Prop:=allowed (pinK o G i)∧pinOK (o.getD i 0) (pinK o G i) (G.getD i Zero) (G.getD (i+2) Zero)
variable {o:List UInt8} {i:Nat} {G:List E3}
theorem zd (h:i+1<o.length): (pinO o i).length+2=o.length:=by unfold pinO; simp; omega
theorem pinG_len (h:i+1<o.length)(hg:G.length=o.length+1): (pinG o G i).length=(pinO o i).length+1:=by
 unfold pinO pinG; simp; omega
abbrev RedR:=List (Nat×Int)×List UInt8×List E3
open Classical in
noncomputable def redE (o:List UInt8)(G:List E3)(i:Nat): Option RedR :=
 if h:i+1<o.length then
  if pinAt o G i=true then
   if pinA o G i then (redE (pinO o i) (pinG o G i) (i - 1)).map fun r=>((i,pinK o G i)::r.1,r.2) else none
  else redE o G (i+1)
 else some ([],o,G)
 termination_by 2*o.length - i
 decreasing_by
  ·have:=zd h; omega
  ·omega
theorem zU (h:¬ i+1<o.length): redE o G i=some ([],o,G):=by
 rw[redE,dif_neg h]
theorem redE_no (h:i+1<o.length)(hp:pinAt o G i=false): redE o G i=redE o G (i+1):=by
 rw[redE,dif_pos h,if_neg (by simp[hp])]
theorem redE_yes (h:i+1<o.length)(hp:pinAt o G i=true)(ha:pinA o G i): redE o G i=(redE (pinO o i) (pinG o G i) (i - 1)).map fun r=>((i,pinK o G i)::r.1,r.2):=by
 rw[redE,dif_pos h,if_pos hp,if_pos ha]
theorem yo (h:i+1<o.length)(hp:pinAt o G i=true)(ha:¬ pinA o G i): redE o G i=none:=by
 rw[redE,dif_pos h,if_pos hp,if_neg ha]
def onto (acc:List (Nat×Int))(r:Option RedR): Option RedR:=r.map fun r=>(acc++r.1,r.2)
theorem onto_nil (r:Option RedR): onto [] r=r:=by cases r <;>simp[onto]
theorem onto_snoc (acc:List (Nat×Int))(t:Nat×Int)(r:Option RedR): onto acc (r.map fun r=>(t::r.1,r.2))=onto (acc++[t]) r:=by
 cases r <;>simp[onto]
theorem onto_some (acc:List (Nat×Int))(o:List UInt8)(G:List E3): onto acc (some ([],o,G))=some (acc,o,G):=by simp[onto]
def endE (o:List UInt8)(G:List E3): E3:=if o=[] then G.getD 0 Zero else Zero
end
end Sr
namespace Sr
open Go Go.Proofs Go.RowKit Go.Maps Go.WideMaps
section
theorem info42:(Tryz.prog.info? 42).map (fun i=>(i.zero,i.size,i.bytes))=some (some (.agg #[.int .i64 0,.slice none 0 0]),2,32):=by kernel_rfl
theorem un23:Tryz.prog.underlying 23=some (.slice 42):=by kernel_rfl
def stc:List (Nat×Int)→List Value→List Value
 | s::st,u::vs=>.int .i64 (s.1:Nat)::u::stc st vs
 | _,_=>[]
theorem stc_snoc:∀ {st:List (Nat×Int)} {vs:List Value} {s:Nat×Int} {u:Value},vs.length=st.length→stc (st++[s]) (vs++[u])=stc st vs++[.int .i64 (s.1:Nat),u]
 | [],[],_,_,_=>rfl
 | s::st,u::vs,t,w,h=>by simp[stc,stc_snoc (st:=st) (vs:=vs) (s:=t) (u:=w) (by simpa using h)]
 | [],_::_,_,_,h=>by simp at h
 | _::_,[],_,_,h=>by simp at h
structure StRow (B0:Nat)(w:World)(v:Value)(st:List (Nat×Int)): Prop where
 row:∃ vs:List Value,vs.length=st.length∧w.ownsRow 0 42 2 v st.length (stc st vs)∧∀ (i:Nat) (u:Value) (s:Nat×Int),vs[i]? = some u→st[i]? = some s→BRow w u (nbytes s.2)∧∀ b,u.ownBlock=some b→B0≤b
 own:∀ b,v.ownBlock=some b→B0≤b
variable {B0:Nat} {w w':World} {v:Value}
theorem StRow.kept {st:List (Nat×Int)}(h:StRow B0 w v st)(hk:∀ (b:Nat) (c:Array Value) (T:TypeId),w.heap[b]? = some (.cells c T (0,0))→B0≤b→(T=42∨T=5)→w'.heap[b]? = w.heap[b]?): StRow B0 w' v st:=by
 obtain⟨vs,h1,h2,h3⟩:=h.row
 refine⟨⟨vs,h1,jJ h2 fun b e=>?_,fun i u s hu hs=>⟨jJ (h3 i u s hu hs).1 fun b e=>?_,(h3 i u s hu hs).2⟩⟩,h.own⟩
 ·obtain⟨c,hc⟩:=jO h2 e
  exact hk b c 42 hc (h.own b e) (.inl rfl)
 ·obtain⟨c,hc⟩:=jO (h3 i u s hu hs).1 e
  exact hk b c 5 hc ((h3 i u s hu hs).2 b e) (.inr rfl)
theorem StRow.below {st:List (Nat×Int)}(h:StRow B0 w v st)(hb:Below w.heap.size w w'): StRow B0 w' v st :=
 h.kept fun b _ _ hc _ _=>hb.block b (jA hc).1
theorem StRow.fr {F:List Nat}{st:List (Nat×Int)}(h:StRow B0 w v st)(hf:Fr F w w')(hF:∀ b∈F,b<B0): StRow B0 w' v st :=
 h.kept fun b _ _ hc hb _=>hf.block b (jA hc).1 fun hm=>by have:=hF b hm; omega
theorem StRow.nil (B0:Nat)(w:World): StRow B0 w (.slice none 0 0) [] :=
 ⟨⟨[],rfl,⟨rfl,.inl ⟨rfl,rfl⟩⟩,fun i u s h=>by simp at h⟩,fun b h=>by cases h⟩
theorem StRow.snoc {w5 w7:World}{v' bv:Value}{st:List (Nat×Int)}{vs:List Value}{s:Nat×Int}{o:Obj}(h:StRow B0 w5 v st)(hl:vs.length=st.length) 
 (h3:∀ (i:Nat) (u:Value) (s:Nat×Int),vs[i]? = some u→st[i]? = some s→BRow w5 u (nbytes s.2)∧∀ b,u.ownBlock=some b→B0≤b)
 (hbr:BRow w5 bv (nbytes s.2)) (hbo:∀ b,bv.ownBlock=some b→B0≤b) (hB:B0≤w5.heap.size)
 (K:w7.ownsRow 0 42 2 v' (st.length+1) (stc st vs++[.int .i64 (s.1:Nat),bv])) (G:(w5.alloc o).grownBy w7 v.ownBlock) (A:v'.ownBlock=v.ownBlock∨v'.ownBlock=some (w5.alloc o).heap.size):StRow B0 w7 v' (st++[s]):=by
 obtain⟨vs0,_,hr0,_⟩:=h.row
 have keep:∀ {u:Value} {l:List UInt8},BRow w5 u l→BRow w7 u l:=fun {u l} hu=>jJ hu fun b e=>by
  obtain⟨c,hc⟩:=jO hu e
  have hlt:=jP hu e
  refine (G.block b (by simp; omega) fun e'=>?_).trans (jE _ _ hlt)
  obtain⟨c',hc'⟩:=jO hr0 e'.symm
  rw[hc] at hc'; cases hc'
 refine⟨⟨vs++[bv],by simp[hl],?_,fun i u t hu ht=>?_⟩,fun b e=>?_⟩
 ·rw[stc_snoc hl,List.length_append];exact K
 ·rcases Nat.lt_or_ge i vs.length with hlt | hge
  ·rw[List.getElem?_append_left hlt] at hu
   rw[List.getElem?_append_left (by omega)] at ht
   exact⟨keep (h3 i u t hu ht).1,(h3 i u t hu ht).2⟩
  ·rw[List.getElem?_append_right hge] at hu
   rw[List.getElem?_append_right (by omega)] at ht
   have e1:i - vs.length=0:=by
    have:=(jL hu).1; simp at this; omega
   have e2:i - st.length=0:=by omega
   rw[e1] at hu; rw[e2] at ht
   simp at hu ht
   subst hu ht
   exact⟨keep hbr,hbo⟩
 ·rcases A with A | A
  ·exact h.own b (A▸e)
  ·rw[A] at e; simp at e; omega
section
variable {ops:Array Oper} {rest:List Oper} {o:Oper} {a:Act} {Q:Exit→Act→World→Prop} {W:World}
theorem app_S1 (hgd:o.guard=none)(s x:Operand)(ho:o.op=.call { callee:=.builtin .append,args:=#[s,x],argTypes:=#[23,23] }) 
 (v:Value) (n:Nat) (l:List Value) (hs:a.eval s=v) (hown:W.ownsRow 0 42 2 v n l) (B:Nat) (i:Int) (t:Value) (h1:t.oneCell'=true) (hx:a.eval x=.slice (some ⟨B,0,none⟩) 1 1)
 (hB:W.heap[B]? = some (.cells #[.int .i64 i,t] 42 (0,0))) (hb:n+1≤1099511627776)
 (h:∀ v' w',w'.ownsRow 0 42 2 v' (n+1) (l++[.int .i64 i,t])→W.grownBy w' v.ownBlock→v'≠.slice none 0 0→(v'.ownBlock=v.ownBlock∨v'.ownBlock=some W.heap.size)→wpList Tryz.prog ops Q rest (a.put o.dst v') w') :
 wpList Tryz.prog ops Q (o::rest) a W:=by
 obtain⟨ii,hi,hz0,hz1,hz2⟩:=info_parts info42
 refine wpList_append_own_at _ hgd s x 23 ho 0 42 ii _ 2 32 un23 hi hz0 hz1 hz2 rfl (by decide) v n _ hs hown ⟨B,0,none⟩ 1 1 [.int .i64 i,t] hx rfl (fun j u hu=>World.news_of_block hB j u hu) (by simp[h1];rfl) (by simp only[maxLen];omega) (by omega) (Nat.zero_le _) ?_
 intro v' w' k1 k2 k3 k4
 exact h v' w' k1 k2 (fun e=>by have:=(k3.1 e).2; omega) k4
end
end
section
theorem int_pred (i:Nat): Value.int .i64 (max ((i:Int) - 1) 0)=.int .i64 ((i - 1:Nat):Int):=by congr 1; omega
variable {W w:World} {B p:Nat} {ov gv:Value} {l:List Q3} {o:List UInt8} {G:List E3}
theorem ja {e:TypeId}{s n:Nat}{v:Value}{xs:List Value}(h:W.ownsRow 0 e s v n xs): ∃ a c,v=.slice a n c:=by
 obtain⟨hl,⟨rfl,h0⟩ | ⟨g,cap,cur,rfl,-⟩⟩:=h
 ·exact⟨none,0,by rw[h0]⟩
 ·exact⟨_,_,rfl⟩
theorem Rd.other {w':World}(h:Rd B w p ov gv l o G) 
 (hk:∀ (b:Nat) (c:Array Value) (T:TypeId),w.heap[b]? = some (.cells c T (0,0))→T≠42→w'.heap[b]? = w.heap[b]?):Rd B w' p ov gv l o G :=
 h.kept fun b c T hb hT=>hk b c T hb (by rcases hT with h | h | h | h | h | h <;>(first | subst h | (obtain⟨rfl,-⟩:=h)) <;>decide)
def rdF (p:Nat)(ov gv:Value): List Nat:=p::(ov.ownBlock.toList++gv.ownBlock.toList)
theorem Rd.lows (h:Rd B w p ov gv l o G): ∀ b∈rdF p ov gv,B≤b∧b<w.heap.size:=fun b hb=>by
 unfold rdF at hb
 rcases List.mem_cons.1 hb with rfl | hb
 ·exact⟨h.hp,(jA h.obj).1⟩
 ·rcases List.mem_append.1 hb with hb | hb
  ·have e:ov.ownBlock=some b:=by simpa using hb
   exact⟨h.ho b e,jP h.out e⟩
  ·have e:gv.ownBlock=some b:=by simpa using hb
   exact⟨h.hg b e,jP h.row e⟩
theorem Fr.newer {F F2:List Nat}{w':World}(h:Fr F W w)(k:Fr F2 w w')(h2:∀ b∈F2,W.heap.size≤b): Fr F W w' :=
 ⟨k.os.trans h.os,k.tape.trans h.tape,k.output.trans h.output,Nat.le_trans h.size k.size,fun b hb hn=>(k.block b (by have:=h.size; omega) fun hm=>by have:=h2 b hm; omega).trans (h.block b hb hn)⟩
def RedQ (B p:Nat)(r:Option RedR)(W:World)(e:Ending)(W':World): Prop :=
 (∃ st o' G',r=some (st,o',G')∧∃ sv ov' gv' l',e=.returned sv∧Hid (Rd B W' p ov' gv' l' o' G')∧Hid (StRow W.heap.size W' sv st)∧Hid (Below B W W'))∨(r=none∧e=pan 5∧Hid (Below B W W'))
theorem jo {α:Type}{l:List α}{i:Nat}{x d:α}(h:l[i]? = some x): l.getD i d=x:=by rw[List.getD_eq_getElem?_getD,h];rfl
theorem reduce_any (h:Rd B W p ov gv l o G)(hl:o.length≤100000)(hgl:G.length=o.length+1):
 Calls Tryz.prog 48 #[.pointer (some ⟨p,0,none⟩)] W (RedQ B p (redE o G 0) W):=by
 have HLow:Hid (∀ b∈rdF p ov gv,B≤b∧b<W.heap.size):=h.lows
 have HBs:Hid (B≤W.heap.size):=by show _≤_; have:=h.hp; have:=(jA h.obj).1; omega
 have HR0:=jH h
 have HGL:=jH hgl
 clear h hgl
 go_enter Tryz.func48,Tryz.ntmps48
 go_wp2_with fail
 go_loopg [3,4] (2*o.length+1) (fun g1 sv iv wr=>∃ (i:Nat) (acc:List (Nat×Int)) (o':List UInt8) (G':List E3) (ov' gv':Value) (l':List Q3),iv=.int .i64 i∧i≤o'.length∧acc.length+o'.length≤100000∧2*o'.length+1 - i≤g1∧Hid (G'.length=o'.length+1)∧Hid (Rd B wr p ov' gv' l' o' G')∧Hid (ov'.ownBlock=ov.ownBlock∧gv'.ownBlock=gv.ownBlock)∧Hid (Fr (rdF p ov gv) W wr)∧Hid (StRow W.heap.size wr sv acc)∧Hid (redE o G 0=onto acc (redE o' G' i)))
 case atStart=>exact⟨0,[],o,G,ov,gv,l,rfl,by omega,by simpa using hl,by omega,HGL,HR0,⟨rfl,rfl⟩,Fr.refl _ _,StRow.nil _ _,(onto_nil _).symm⟩
 case round =>
  obtain⟨i,acc,o',G',ov',gv',l',rfl,hio,hacc,hg,HGl,HR,HOw,HF,HSt,HE⟩:=hrel
  clear HR0 HGL hl
  have hshape:=ja HR.out.out
  obtain⟨oa,oc,rfl⟩:=hshape
  have c0:=HR.out.c0
  have HBr:Hid (Below B W wr):=jy (Below.refl _ _) HBs.out (fun b hb=>(HLow.out b hb).1) HF.out
  have hw1:IntKind.i64.wrap ((i:Int)+1)=(i:Int)+1:=IntWalk.i64_in _ (by omega)
  by_cases hlt:i+1<o'.length
  ·have hltz:((i:Int)+1)<(o'.length:Int):=by omega
   obtain⟨c,hc⟩:∃ c,o'[i]? = some c:=⟨_,jG (by omega)⟩
   obtain⟨d,hd⟩:∃ d,o'[i+1]? = some d:=⟨_,jG hlt⟩
   obtain⟨x0,hx0⟩:∃ x,G'[i]? = some x:=⟨_,jG (by rw[HGl.out];omega)⟩
   obtain⟨x1,hx1⟩:∃ x,G'[i+1]? = some x:=⟨_,jG (by rw[HGl.out];omega)⟩
   obtain⟨x2,hx2⟩:∃ x,G'[i+2]? = some x:=⟨_,jG (by rw[HGl.out];omega)⟩
   have hPi:=pinched_calls HR.out hc hd hx1 (by omega) HGl.out
   have HPA:Hid (pinAt o' G' i=(decide (c≠d)&&pinB c x1)):=by show _=_; unfold pinAt; rw[jo hc,jo hd,jo hx1]
   rw[← HPA.out] at hPi
   have HC:=jH hc
   have HX0:=jH hx0
   have HX1:=jH hx1
   have HX2:=jH hx2
   clear hc hd hx0 hx1 hx2
   by_cases hpin:pinAt o' G' i=true
   ·rw[hpin] at hPi
    have HPin:=jH hpin
    have hHB:c=98→(x1.u=0∨0≤x1.v):=fun hcb=>by
     have:=HPA.out.symm.trans HPin.out
     simp only[pinB,hcb,Bool.and_eq_true,if_pos,decide_eq_true_eq] at this
     exact this.2.2
    have HHB:Hid (c=98→(x1.u=0∨0≤x1.v)):=hHB
    clear hpin hHB
    go_wp2_with fail
    refine hPi.mono ?_
    rintro e w1 ⟨rfl,hb1⟩
    have HR1:=jH (HR.out.below hb1.out)
    have hPw:=power_any HR1.out HC.out HX1.out (by omega) HGl.out HHB.out
    have HB1:=jH hb1.out
    clear hPi hb1 c0
    go_wp2_with fail
    refine hPw.mono ?_
    have HKe:Hid (pinK o' G' i=powE c x1):=by show _=_; unfold pinK; rw[jo HC.out,jo HX1.out]
    rintro e w2 (⟨hok2,q2,rfl,hi2,hb2⟩ | ⟨hno,rfl,hb2⟩)
    rotate_left
    ·refine And.intro rfl ?_
     refine Or.inr ⟨?_,rfl,?_⟩
     ·rw[HE.out,yo hlt HPin.out (fun h=>hno (HKe.out▸h.1))];rfl
     ·exact jy HBr.out HBs.out (F:=[]) (by simp) (Fr.of_below (Below.trans' HB1.out hb2.out))
    have HA2:=jH hok2
    have HB3:Hid (Below wr.heap.size wr (w2.alloc (.cells #[.pointer q2] 26))):=(Below.trans' HB1.out hb2.out).alloc (Below.trans' HB1.out hb2.out).size _
    have HI3:Hid (IsN (w2.alloc (.cells #[.pointer q2] 26)) (.agg #[.pointer q2]) (powE c x1)):=hi2.out.below ((Below.refl _ _).alloc (jR _) _)
    have X3:Hid ((w2.alloc (.cells #[.pointer q2] 26)).heap[w2.heap.size]? = some (.cells #[.pointer q2] 26 (0,0))):=jD w2 _
    have hBt:=Bytes_calls (W:=w2.alloc (.cells #[.pointer q2] 26)) HI3.out
    have hsz2:wr.heap.size≤w2.heap.size:=(Below.trans' HB1.out hb2.out).size
    have hWr:W.heap.size≤wr.heap.size:=HF.out.size
    clear hPw hok2 hi2 hb2
    go_wp2_with fail
    refine hBt.mono ?_
    rintro e w5 ⟨bv,rfl,hbr,hb5,hbo⟩
    have HB5:=jH (Below.trans' HB3.out hb5.out)
    have HI5:=jH (HI3.out.below hb5.out)
    have X5:=jH (Below.here hb5.out X3.out)
    have HS5:=jH (HSt.out.below HB5.out)
    have HR5:=jH (HR.out.below HB5.out)
    have HBo:Hid (∀ b,bv.ownBlock=some b→W.heap.size≤b):=fun b e=>by have:=hbo.out b e; simp at this; omega
    obtain⟨bg,bc,hbv⟩:=hbr.out.form (by unfold nbytes; simp[yb];omega)
    obtain⟨nb,hnb⟩:∃ nb,nb=(nbytes (powE c x1)).length:=⟨_,rfl⟩
    rw[← hnb] at hbv
    subst hbv
    have HBR:=jH hbr.out
    obtain⟨vs,hvl,hrow,hvs⟩:=HS5.out.row
    have HVL:=jH hvl
    have HVS:Hid (∀ (i:Nat) (u:Value) (s:Nat×Int),vs[i]? = some u→acc[i]? = some s→BRow w5 u (nbytes s.2)∧∀ b,u.ownBlock=some b→W.heap.size≤b):=hvs
    have HRow:=jH hrow
    have hb26:w2.heap.size<w5.heap.size:=(jA X5.out).1
    have hbnd:acc.length+1≤1099511627776:=by omega
    have HB53:=jH hb5.out
    clear hBt hbr hb5 hbo hnb hvl hrow hvs
    have hA42:=fun (o:Obj)=>jD w5 o
    go_wp2_with (at_builtin
                 go_loud (
                  (refine app_S1 rfl _ _ rfl u3 acc.length _ rfl (World.ownsRow.alloc HRow.out _) _ (i:Int) _ rfl rfl (jD _ _) hbnd ?_; intro v' w7 K7 G7 N7 A7
                   have HK7:=jH K7
                   have HG7:=jH (Gb.of G7 A7)
                   have HS7:=jH (StRow.snoc (s:=(i,powE c x1)) HS5.out HVL.out HVS.out HBR.out HBo.out (by have:=HB5.out.size; omega) K7 G7 A7)
                   clear K7 G7 N7 A7
                   have HK42:Hid (∀ (b:Nat) (c:Array Value) (T:TypeId),w5.heap[b]? = some (.cells c T (0,0))→T≠42→w7.heap[b]? = w5.heap[b]?):=fun b c T hb hT=>HG7.out.fr.block b (jA hb).1 fun hm=>by
                    obtain⟨c',hc'⟩:=jO HRow.out (b:=b) (by simpa using hm)
                    exact jI hb hc' hT rfl
                   have X7:Hid (w7.heap[w2.heap.size]? = some (.cells #[.pointer q2] 26 (0,0))):=(HK42.out _ _ _ X5.out (by decide)).trans X5.out
                   have c7:w7.cell? ⟨w2.heap.size,0,none⟩=some (.pointer q2):=by rw[jB X7.out];rfl
                   have HI7:Hid (IsN w7 (.agg #[.pointer q2]) (powE c x1)):=HI5.out.kept fun b c T hb hT=>HK42.out b c T hb (by rcases hT with h | h | h <;>subst h <;>decide)
                   have HR7:=jH (HR5.out.other HK42.out)
                   have hPc:=pinch_any HR7.out HC.out hlt HX0.out HX2.out (by omega) HGl.out HI7.out)))
    refine hPc.mono ?_
    have HPo:Hid (pinOK c (powE c x1) x0 x2=pinOK (o'.getD i 0) (pinK o' G' i) (G'.getD i Zero) (G'.getD (i+2) Zero)):=by show _=_; rw[jo HC.out,HKe.out,jo HX0.out,jo HX2.out]
    have HPg:Hid (G'.take i++[pinX c (powE c x1) x0 x2]++G'.drop (i+3)=pinG o' G' i):=by show _=_; unfold pinG; rw[jo HC.out,HKe.out,jo HX0.out,jo HX2.out]
    have HF7:Hid (Fr (rdF p ov gv) W w7):=(HF.out.pre (Fr.of_below HB5.out)).newer HG7.out.fr (fun b hb=>HS5.out.own b (by simpa using hb))
    rintro e w9 (⟨hok9,ob,gb,hob,hgb,rfl,ov9,gv9,l9,hr9,ho9,hf9⟩ | ⟨hno,rfl,hb9⟩)
    rotate_left
    ·refine And.intro rfl ?_
     refine Or.inr ⟨?_,rfl,?_⟩
     ·rw[HE.out,yo hlt HPin.out (fun h=>hno (HPo.out▸h.2))];rfl
     ·exact jy (Below.refl _ _) HBs.out (fun b hb=>(HLow.out b hb).1) (HF7.out.pre (Fr.of_below hb9.out))
    have HA9:Hid (pinA o' G' i):=⟨HKe.out▸HA2.out,HPo.out▸hok9⟩
    have hmem:∀ b∈[p,ob,gb],b∈rdF p ov gv:=fun b hb=>by
     have h1:=HOw.out.1; have h2:=HOw.out.2
     rw[hob] at h1; rw[hgb] at h2
     unfold rdF; rw[← h1,← h2]
     simpa using hb
    have HF9:Hid (Fr (rdF p ov gv) W w9):=HF7.out.pre (hf9.out.more hmem)
    have HS9:Hid (StRow W.heap.size w9 v' (acc++[(i,powE c x1)])):=HS7.out.fr hf9.out (fun b hb=>(HLow.out b (hmem b hb)).2)
    have HR9:Hid (Rd B w9 p ov9 gv9 l9 (pinO o' i) (pinG o' G' i)):=by
     show Rd _ _ _ _ _ _ _ _
     rw[← HPg.out];exact hr9.out
    have HO9:Hid (ov9.ownBlock=ov.ownBlock∧gv9.ownBlock=gv.ownBlock):=⟨ho9.out.1.trans (hob.symm.trans HOw.out.1),ho9.out.2.trans (hgb.symm.trans HOw.out.2)⟩
    have hw2:IntKind.i64.wrap ((i:Int) - 1)=(i:Int) - 1:=IntWalk.i64_in _ (by omega)
    have hpl:=zd hlt
    clear hPc hob hgb hr9 ho9 hf9 hok9 hmem c7
    go_wp2_with fail
    go_roundg (2*(pinO o' i).length+1 - (i - 1))
    case measure=>omega
    case rel=>exact⟨i - 1,acc++[(i,powE c x1)],pinO o' i,pinG o' G' i,ov9,gv9,l9,int_pred i,by omega,by simp; omega,by omega,pinG_len hlt HGl.out,HR9,HO9,HF9,HS9,by show _=_; rw[HE.out,redE_yes hlt HPin.out HA9.out,onto_snoc,HKe.out]⟩
   ·have hpf:pinAt o' G' i=false:=by simpa using hpin
    rw[hpf] at hPi
    have HPin:=jH hpf
    clear hpin hpf
    go_wp2_with fail
    refine hPi.mono ?_
    rintro e w1 ⟨rfl,hb1⟩
    have HR1:=jH (HR.out.below hb1.out)
    have HF1:=jH (HF.out.pre (Fr.of_below hb1.out))
    have HS1:=jH (HSt.out.below hb1.out)
    clear hPi hb1 c0
    go_wp2_with fail
    go_roundg (2*o'.length+1 - (i+1))
    case measure=>omega
    case rel=>exact⟨i+1,acc,o',G',_,gv',l',by go_num,by omega,by omega,by omega,HGl,HR1,HOw,HF1,HS1,by show _=_; rw[HE.out,redE_no hlt HPin.out]⟩
  ·have hltz:¬ (((i:Int)+1)<(o'.length:Int)):=by omega
   go_wp2_with fail
   go_ret
   refine Or.inl ⟨acc,o',G',?_,u3,_,gv',l',rfl,HR,HSt,HBr⟩
   rw[HE.out,zU hlt,onto_some]
end
theorem catch_full (p:Nat)(n m:Int)(w:World)(hc:w.cell? ⟨p,0,none⟩=some (.int .i64 m))(hz:w.frozen? ⟨p,0,none⟩=false):
 CallsD Tryz.prog 92 #[.pointer (some ⟨p,0,none⟩)] (.panicking [{ v:=.iface 29 (.int .i64 n),recovered:=false }]) w fun e u' w'=>e=.returned (.tuple #[])∧u'=.panicking [{ v:=.iface 29 (.int .i64 n),recovered:=true }]∧w'=w.setCell ⟨p,0,none⟩ (.int .i64 n):=by
 have hta:∀ w,(Instr.typeAssert (.iface 29 (.int .i64 n)) 20 29 true).run Tryz.prog w=.ok (.tuple #[.int .i64 n,.bool true]) w:=fun w=>by kernel_rfl
 refine callsD_of_wpS Tryz.func92 rfl fun c₀ cs hu=>?_
 apply wpS_seq
 apply wpS_region
 simp[wpOpsS,go_sem,recoverD,hu,Tryz.ntmps92,Exit.thenS]
 refine wpS_of_wp ?_
 simp only[Array.replicate_succ,Array.replicate_zero]
 simp
 go_wp2_with fail
 cases c₀
 simp_all [bodyPostS,results,Tryz.results92]
theorem guarded_any {W:World}{k:FuncId}{caps:Array Value}{R:Int→World→Prop}(eg:∀ args w,(callFunc k args).run Tryz.prog w=.ok (.enter k args) w) 
 (h:Calls Tryz.prog k caps (W.alloc (.cells #[.int .i64 0] 29)) fun e W'=>(e=.returned (.tuple #[])∧Hid (R 0 W')∨∃ n,e=pan n∧Hid (R n W'))∧Hid (W'.heap[W.heap.size]? = some (.cells #[.int .i64 0] 29 (0,0)))) :
 Calls Tryz.prog 45 #[.func (.func k) #[] caps] W fun e W'=>∃ n W1,e=.returned (.int .i64 n)∧Hid (R n W1)∧Hid (W1.heap[W.heap.size]? = some (.cells #[.int .i64 0] 29 (0,0)))∧W'=W1.setCell ⟨W.heap.size,0,none⟩ (.int .i64 n):=by
 have hmf:∀ (fn:Fn) (first cap:Array Value) (w:World),(Instr.makeFunc fn first cap).run Tryz.prog w=.ok (.func fn first cap) w:=fun _ _ _ _=>rfl
 go_enter_defers Tryz.func45,Tryz.ntmps45
 go_wp2_with fail
 refine h.mono ?_
 rintro e w1 ⟨⟨rfl,hr⟩ | ⟨n,rfl,hr⟩,hx⟩
 ·have c1:w1.cell? ⟨W.heap.size,0,none⟩=some (.int .i64 0):=by rw[jB hx.out];rfl
  have f1:w1.frozen? ⟨W.heap.size,0,none⟩=false:=jF hx.out 0
  clear h
  go_wp2_with fail
  refine leaves_cons (f:=92) (args:=#[.pointer (some ⟨W.heap.size,0,none⟩)]) (by simp) (by simp[go_sem]) ?_
  refine (catch_idle ⟨W.heap.size,0,none⟩ _).mono ?_
  rintro e u' w'' ⟨rfl,rfl,rfl⟩
  have hb:=(jA hx.out).1
  have c2:(w1.setCell ⟨W.heap.size,0,none⟩ (.int .i64 0)).cell? ⟨W.heap.size,0,none⟩=some (.int .i64 0):=by rw[jB (heap_setCell_same w1 W.heap.size 0 _ 29 (.int .i64 0) hx.out) 0];rfl
  simp[Leaves,settle,results,Tryz.results45,go_sem]
  exact⟨_,by rw[c2],0,rfl,w1,hr,hx,rfl⟩
 ·have c1:w1.cell? ⟨W.heap.size,0,none⟩=some (.int .i64 0):=by rw[jB hx.out];rfl
  have f1:w1.frozen? ⟨W.heap.size,0,none⟩=false:=jF hx.out 0
  clear h
  refine leaves_cons (f:=92) (args:=#[.pointer (some ⟨W.heap.size,0,none⟩)]) (by simp) (by simp[go_sem]) ?_
  refine (catch_full W.heap.size n 0 _ c1 f1).mono ?_
  rintro e u' w'' ⟨rfl,rfl,rfl⟩
  have c2:(w1.setCell ⟨W.heap.size,0,none⟩ (.int .i64 n)).cell? ⟨W.heap.size,0,none⟩=some (.int .i64 n):=by rw[jB (heap_setCell_same w1 W.heap.size 0 _ 29 (.int .i64 n) hx.out) 0];rfl
  simp[Leaves,settle,results,Tryz.results45,go_sem]
  exact⟨_,by rw[c2],n,rfl,w1,hr,hx,rfl⟩
end Sr
namespace Go.Proofs
open Go.Shelf
def Tryz.lays160_ren:Go.Shelf.Ren:=⟨fun | 160=>91 | 232=>126 | 231=>125 | 227=>127 | 234=>129 | 233=>128 | 236=>131 | 235=>130 | 228=>142 | 271=>145 | 151=>144 | 197=>143 | 120=>160 | 152=>159 | 260=>158 | 137=>167 | 119=>168 | 224=>169 | 225=>170 | 217=>172 | 266=>173 | n=>n,fun | 9=>9 | 4=>4 | 3=>3 | 5=>5 | 117=>184 | 116=>183 | 0=>0 | 124=>187 | 21=>21 | 105=>197 | 46=>173 | 119=>218 | 139=>221 | 138=>220 | n=>n,fun | 3=>0 | 4=>1 | n=>n⟩
theorem Tryz.lays160:Go.Proofs.Lays.n160 Tryz.prog Tryz.lays160_ren:={
 mixed:=by kernel_rfl
 f119:=Tryz.func168.trans (congrArg some (by kernel_rfl))
 f120:=Tryz.func160.trans (congrArg some (by kernel_rfl))
 f137:=Tryz.func167.trans (congrArg some (by kernel_rfl))
 f151:=Tryz.func144.trans (congrArg some (by kernel_rfl))
 f152:=Tryz.func159.trans (congrArg some (by kernel_rfl))
 f160:=Tryz.func91.trans (congrArg some (by kernel_rfl))
 f197:=Tryz.func143.trans (congrArg some (by kernel_rfl))
 f217:=Tryz.func172.trans (congrArg some (by kernel_rfl))
 f224:=Tryz.func169.trans (congrArg some (by kernel_rfl))
 f225:=Tryz.func170.trans (congrArg some (by kernel_rfl))
 f227:=Tryz.func127.trans (congrArg some (by kernel_rfl))
 f228:=Tryz.func142.trans (congrArg some (by kernel_rfl))
 f231:=Tryz.func125.trans (congrArg some (by kernel_rfl))
 f232:=Tryz.func126.trans (congrArg some (by kernel_rfl))
 f233:=Tryz.func128.trans (congrArg some (by kernel_rfl))
 f234:=Tryz.func129.trans (congrArg some (by kernel_rfl))
 f235:=Tryz.func130.trans (congrArg some (by kernel_rfl))
 f236:=Tryz.func131.trans (congrArg some (by kernel_rfl))
 f260:=Tryz.func158.trans (congrArg some (by kernel_rfl))
 f266:=Tryz.func173.trans (congrArg some (by kernel_rfl))
 f271:=Tryz.func145.trans (congrArg some (by kernel_rfl))
 t0:=Tryz.underlying0
 a0:=Tryz.isAgg0
 z0:=Tryz.sizeOf0
 v0:=Tryz.zeroValue0
 t3:=Tryz.underlying3
 a3:=Tryz.isAgg3
 z3:=Tryz.sizeOf3
 v3:=Tryz.zeroValue3
 t4:=Tryz.underlying4
 a4:=Tryz.isAgg4
 z4:=Tryz.sizeOf4
 v4:=Tryz.zeroValue4
 t5:=Tryz.underlying5
 a5:=Tryz.isAgg5
 z5:=Tryz.sizeOf5
 v5:=Tryz.zeroValue5
 t9:=Tryz.underlying9
 a9:=Tryz.isAgg9
 z9:=Tryz.sizeOf9
 v9:=Tryz.zeroValue9
 t21:=Tryz.underlying21
 a21:=Tryz.isAgg21
 z21:=Tryz.sizeOf21
 v21:=Tryz.zeroValue21
 t46:=Tryz.underlying173
 a46:=Tryz.isAgg173
 z46:=Tryz.sizeOf173
 v46:=Tryz.zeroValue173
 t105:=Tryz.underlying197
 a105:=Tryz.isAgg197
 z105:=Tryz.sizeOf197
 v105:=Tryz.zeroValue197
 t116:=Tryz.underlying183
 a116:=Tryz.isAgg183
 z116:=Tryz.sizeOf183
 t117:=Tryz.underlying184
 a117:=Tryz.isAgg184
 z117:=Tryz.sizeOf184
 v117:=Tryz.zeroValue184
 t119:=Tryz.underlying218
 a119:=Tryz.isAgg218
 z119:=Tryz.sizeOf218
 t124:=Tryz.underlying187
 a124:=Tryz.isAgg187
 z124:=Tryz.sizeOf187
 v124:=Tryz.zeroValue187
 t138:=Tryz.underlying220
 a138:=Tryz.isAgg220
 z138:=Tryz.sizeOf220
 v138:=Tryz.zeroValue220
 t139:=Tryz.underlying221
 a139:=Tryz.isAgg221
 z139:=Tryz.sizeOf221
 v139:=Tryz.zeroValue221
 g3:=by kernel_rfl
 g4:=by kernel_rfl }
def Tryz.lays115_ren:Go.Shelf.Ren:=⟨fun | 115=>68 | n=>n,fun | 37=>40 | 4=>4 | 9=>9 | 5=>5 | n=>n,fun | n=>n⟩
theorem Tryz.lays115:Go.Proofs.Lays.n115 Tryz.prog Tryz.lays115_ren:={
 mixed:=by kernel_rfl
 f115:=Tryz.func68.trans (congrArg some (by kernel_rfl))
 t4:=Tryz.underlying4
 a4:=Tryz.isAgg4
 z4:=Tryz.sizeOf4
 v4:=Tryz.zeroValue4
 t9:=Tryz.underlying9
 a9:=Tryz.isAgg9
 z9:=Tryz.sizeOf9
 v9:=Tryz.zeroValue9
 t37:=Tryz.underlying40
 a37:=Tryz.isAgg40
 z37:=Tryz.sizeOf40
 v37:=Tryz.zeroValue40 }
open Go.Proofs Go.RowKit Go.Lib in
theorem Tryz.bytes_Equal_strs (v1 v2:Value)(t1 t2:ByteArray)(w:World)(h1:(convert 40 9 v1).run Tryz.prog w=.ok (.string t1) w)(h2:(convert 40 9 v2).run Tryz.prog w=.ok (.string t2) w):
 Calls Tryz.prog 68 #[v1,v2] w fun e w'=>e=.returned (.bool (t1.toList==t2.toList))∧w'=w:=Any.bytes_Equal_strs Tryz.lays115 v1 v2 t1 t2 w h1 h2
end Go.Proofs
namespace Sr
open Go Go.Proofs Go.RowKit Go.Maps Go.WideMaps
def letters:List UInt8:=[97,65,98,66]
def isWordL (l:List UInt8): Bool:=decide (l.length≤400)&&l.all (letters.contains ·)
theorem yd {α:Type}{p:α→Bool}{l:List α}: l.dropWhile p=[]↔l.all p=true:=by
 induction l with
 | nil=>simp
 | cons a l ih =>
   rw[List.dropWhile_cons]
   cases h:p a <;>simp[h,ih]
theorem trimS_nil (l:List UInt8): Lib.trimS l letters=[]↔l.all (letters.contains ·)=true:=by
 unfold Lib.trimS Lib.trimLeftS Lib.trimRightS
 rw[yd]
 constructor
 ·intro h
  have h1:(l.reverse.dropWhile (letters.contains ·))=[]:=by
   cases he:l.reverse.dropWhile (letters.contains ·) with
   | nil=>rfl
   | cons a t =>
     exfalso
     have h2:=List.head_dropWhile_not (letters.contains ·) (l:=l.reverse) (by rw[he];simp)
     rw[he] at h
     simp only[List.all_reverse,List.all_cons,Bool.and_eq_true] at h
     simp only[he,List.head_cons] at h2
     rw[h.1] at h2; cases h2
  rw[yd,List.all_reverse] at h1
  exact h1
 ·intro h
  have:l.reverse.dropWhile (letters.contains ·)=[]:=by rw[yd,List.all_reverse];exact h
  rw[this];rfl
theorem zP (s:ByteArray)(w:World)(hs:s.size≤9223372036854775807):
 Calls Tryz.prog 44 #[.string s] w fun e w'=>e=.returned (.bool (isWordL s.data.toList))∧Hid (Below w.heap.size w w'):=by
 have hsz:s.data.toList.length=s.size:=by simp
 by_cases hl:s.size≤400
 ·have hlz:(s.size:Int)≤400:=by omega
  have hcon:=Any.strings_Trim_laid Tryz.lays160 (by kernel_rfl) s ⟨#[97,65,98,66]⟩ w hs (by decide) (ascii_of_all (by decide))
  change Calls Tryz.prog 91 _ _ (fun e w'=>e=.returned (.string ⟨(Lib.trimS s.data.toList letters).toArray⟩)∧Below w.heap.size w w') at hcon
  have HE:Hid (isWordL s.data.toList=s.data.toList.all (letters.contains ·)):=by show _=_; unfold isWordL; rw[hsz];simp[hl]
  have ht:=trimS_nil s.data.toList
  generalize Lib.trimS s.data.toList letters=r at hcon ht
  clear hsz hl
  by_cases hr:r=[]
  ·subst hr
   have HW:Hid (s.data.toList.all (letters.contains ·)=true):=ht.1 rfl
   clear ht
   go_enter Tryz.func44,Tryz.ntmps44
   go_wp2_with (go_at_call 91; refine hcon.mono ?_; rintro e w' ⟨rfl,hB⟩)
   go_ret
   refine⟨?_,hB⟩
   rw[HE.out,HW.out];rfl
  ·have HW:Hid (s.data.toList.all (letters.contains ·)=false):=by
    show _=_
    cases h:s.data.toList.all (letters.contains ·) with
    | false=>rfl
    | true=>exact absurd (ht.2 h) hr
   have hre:r.isEmpty=false:=by cases r with
    | nil=>exact absurd rfl hr
    | cons a t=>rfl
   clear ht
   go_enter Tryz.func44,Tryz.ntmps44
   go_wp2_with (go_at_call 91; refine hcon.mono ?_; rintro e w' ⟨rfl,hB⟩)
   go_ret
   refine⟨?_,hB⟩
   rw[HE.out,HW.out]
   first | rfl | (simp; exact hr)
 ·have hlz:¬ ((s.size:Int)≤400):=by omega
  have HE:Hid (isWordL s.data.toList=false):=by show _=_; unfold isWordL; rw[hsz];simp[hl]
  clear hsz hl
  go_enter Tryz.func44,Tryz.ntmps44
  go_wp2_with fail
  go_ret
  refine⟨?_,Below.refl _ _⟩
  rw[HE.out];rfl
theorem end_calls {B:Nat}{W:World}{p:Nat}{ov gv:Value}{l:List Q3}{o:List UInt8}{G:List E3}(h:Rd B W p ov gv l o G)(hgl:G.length=o.length+1)(hl:o.length≤100000):
 Calls Tryz.prog 49 #[.pointer (some ⟨p,0,none⟩)] W fun e W'=>∃ qu qv qm,e=.returned (.tuple #[.int .i64 o.length,.agg #[.pointer qu,.pointer qv,.pointer qm]])∧Hid (IsE W' (.agg #[.pointer qu,.pointer qv,.pointer qm]) (endE o G))∧Hid (Below W.heap.size W W'):=by
 have HR:=jH h
 obtain⟨oa,oc,rfl⟩:=ja h.out
 have c0:=h.c0
 have c1:=h.c1
 have lp:=jg c0
 have np:p≠W.heap.size:=Nat.ne_of_lt lp
 by_cases ho:o=[]
 ·have hlen:o.length=0:=by rw[ho];rfl
  obtain⟨x,hx⟩:∃ x,G[0]? = some x:=⟨_,jG (by omega)⟩
  obtain⟨gb,gc,t,rfl,ht,hie,g0,g1,g2⟩:=h.el hx
  have HEE:Hid (endE o G=x):=by show _=_; unfold endE; rw[if_pos ho,jo hx]
  have HIE:=jH hie
  have hgl1:(0:Int)<(G.length:Int):=by omega
  have hgl2:0<G.length:=by omega
  have HLE:=jH hlen
  rw[Nat.zero_mul] at g0 g1 g2
  rw[Nat.zero_add] at g1 g2
  rw[hlen] at c0
  have HH:=jH ((Has.nil W).add #[.pointer none,.pointer none,.pointer none] 28)
  have lg:=jg g0
  have ng:gb≠W.heap.size:=Nat.ne_of_lt lg
  clear h hx hie ht ho hgl hlen
  go_enter Tryz.func49,Tryz.ntmps49
  go_wp2_with fail
  go_region_law (fail)
  all_goals
   have HB:Below W.heap.size W (W.alloc (.cells #[.pointer t.1,.pointer t.2.1,.pointer t.2.2] 28)).drew:=((Below.refl _ _).alloc (jR _) _).drew
   go_wp2_with fail
   refine bodyPost_ret (v:=.tuple #[.int .i64 0,.agg #[.pointer t.1,.pointer t.2.1,.pointer t.2.2]]) (by simp[results,Tryz.results49,go_sem]) rfl ?_
   refine⟨t.1,t.2.1,t.2.2,by rw[HLE.out];rfl,?_,HB⟩
   show IsE _ _ _
   rw[HEE.out]
   exact HIE.out.below HB
 ·have hpos:0<o.length:=List.length_pos_iff.2 ho
  have hz:(0:Int)<(o.length:Int):=by omega
  have HEE:Hid (endE o G=Zero):=by show _=_; unfold endE; rw[if_neg ho]
  have HH:=jH ((Has.nil W).add #[.pointer none,.pointer none,.pointer none] 28)
  have d0:=HH.out.cell (b:=W.heap.size) (c:=#[.pointer none,.pointer none,.pointer none]) (T:=28) (by simp) 0
  clear h ho hgl
  go_enter Tryz.func49,Tryz.ntmps49
  go_wp2_with fail
  refine bodyPost_ret (v:=.tuple #[.int .i64 o.length,.agg #[.pointer none,.pointer none,.pointer none]]) (by simp[results,Tryz.results49,go_sem]) rfl ?_
  refine⟨none,none,none,rfl,?_,(Below.refl _ _).alloc (jR _) _⟩
  show IsE _ _ _
  rw[HEE.out]
  exact⟨none,none,none,rfl,j4 _,j4 _,j4 _⟩
end Sr
namespace Sr
section
theorem p2 (n:Nat): 0<2 ^ n:=Nat.two_pow_pos n
theorem mul_p2 {a p q:Nat}(h:p≤q): a*2 ^ p≤a*2 ^ q:=Nat.mul_le_mul_left _ (Nat.pow_le_pow_right (by omega) h)
theorem le_p2 (a p:Nat): a≤a*2 ^ p:=Nat.le_mul_of_pos_right _ (p2 p)
theorem shx_abs {x k:Int}(h:0≤k): (shx x k).natAbs=x.natAbs*2 ^ k.toNat:=by
 obtain⟨n,rfl⟩:∃ n:Nat,k=(n:Int):=⟨k.toNat,by omega⟩
 rw[shx_nat,Int.natAbs_mul,Int.natAbs_pow];rfl
theorem y6 (u:Int): (shx u (-(lowE u:Int))).natAbs*2 ^ lowE u=u.natAbs:=by
 have h:=shx_neg (zo (u:=u))
 conv=>rhs; rw[← h]
 rw[Int.natAbs_mul,Int.natAbs_pow];rfl
theorem low_lt {u:Int}(h:u≠0): 2 ^ lowE u≤u.natAbs:=by
 have h1:=y6 u
 have h2:0<(shx u (-(lowE u:Int))).natAbs:=by
  have:=shx_odd h; omega
 calc 2 ^ lowE u=1*2 ^ lowE u:=by omega
  _≤_:=Nat.mul_le_mul_right _ h2
  _=_:=h1
def B289:Nat:=2 ^ 240
theorem b289 (n:Nat)(h:n≤2 ^ 200): n≤B289:=Nat.le_trans h (Nat.pow_le_pow_right (by omega) (by omega))
theorem allowed_B {x:Int}(h:x.natAbs≤B289): allowed x:=ya h
theorem qC {x:Int}(h:x.natAbs≤100000): allowed x:=ya (Nat.le_trans h (by decide))
theorem low_300 {u:Int}(h:u.natAbs≤B289): lowE u≤240:=by
 by_cases hu:u=0
 ·subst hu; unfold lowE; simp[exps,j5]
 ·have h1:=Nat.le_trans (low_lt hu) h
  exact (Nat.pow_le_pow_iff_right (by omega)).1 h1
theorem zW {u v:Int}(hu:u.natAbs≤B289)(hv:v.natAbs≤50000): plainOK u v:=by
 refine .inr ⟨allowed_B ?_,qC ?_⟩
 ·have h1:=y6 u
  have h2:=le_p2 (shx u (-(lowE u:Int))).natAbs (lowE u)
  omega
 ·have:=low_300 hu; omega
structure Lat (k:Nat)(x:E3): Prop where
 pl:Plain x
 m:x.m.natAbs≤k
 v:x.u≠0→-(k:Int)≤x.v
 t:x.u.natAbs*2 ^ (x.v+k).toNat≤k*4 ^ k
theorem four_pow (k:Nat): 4 ^ k=2 ^ (2*k):=by rw[Nat.pow_mul]
theorem k_le (k:Nat): k≤2 ^ k:=Nat.le_of_lt Nat.lt_two_pow_self
theorem Lat.vhi {k:Nat}{x:E3}(h:Lat k x): x.v≤2*k:=by
 by_cases hu:x.u=0
 ·rcases h.pl with ⟨_,h1⟩ | h1
  ·omega
  ·omega
 ·have h1:=h.t
  have h2:=h.v hu
  have h3:2 ^ (x.v+k).toNat≤x.u.natAbs*2 ^ (x.v+k).toNat:=by
   calc 2 ^ (x.v+k).toNat=1*2 ^ (x.v+k).toNat:=by omega
    _≤_:=Nat.mul_le_mul_right _ (by omega)
  have h4:k*4 ^ k≤2 ^ (3*k):=by
   rw[four_pow,show 3*k=k+2*k by omega,Nat.pow_add]
   exact Nat.mul_le_mul_right _ (k_le k)
  have h5:=(Nat.pow_le_pow_iff_right (a:=2) (by omega)).1 (Nat.le_trans h3 (Nat.le_trans h1 h4))
  omega
theorem Lat.vlo {k:Nat}{x:E3}(h:Lat k x): -(k:Int)≤x.v:=by
 by_cases hu:x.u=0
 ·rcases h.pl with ⟨_,h1⟩ | h1
  ·omega
  ·omega
 ·exact h.v hu
theorem Lat.u {k:Nat}{x:E3}(h:Lat k x): x.u.natAbs≤k*4 ^ k:=Nat.le_trans (le_p2 _ _) h.t
theorem lat_plain {k:Nat}{u v m:Int}(hm:m.natAbs≤k)(hv:u≠0→-(k:Int)≤v)(ht:u≠0→u.natAbs*2 ^ (v+k).toNat≤k*4 ^ k): Lat k (plainE u v m):=by
 refine⟨yB _ _ _,by rw[plainE_m];exact hm,?_,?_⟩
 ·unfold plainE; split
  ·intro h; exact absurd rfl h
  ·rename_i hu; intro _; have:=hv hu; show -(k:Int)≤v+lowE u; omega
 ·unfold plainE; split
  ·simp
  ·rename_i hu
   show (shx u (-(lowE u:Int))).natAbs*2 ^ (v+lowE u+k).toNat≤_
   have h1:=y6 u
   have h2:=hv hu
   have e:(v+lowE u+k).toNat=lowE u+(v+k).toNat:=by omega
   rw[e,Nat.pow_add,← Nat.mul_assoc,h1]
   exact ht hu
variable {j:Nat}
theorem kk {k:Nat}: k*4 ^ k*2 ^ j≤k*4 ^ (k+j):=by
 rw[four_pow,four_pow,Nat.mul_assoc,← Nat.pow_add]
 exact Nat.mul_le_mul_left _ (Nat.pow_le_pow_right (by omega) (by omega))
theorem jj {k:Nat}: j*4 ^ j*2 ^ (2*k)≤j*4 ^ (k+j):=by
 rw[four_pow,four_pow,Nat.mul_assoc,← Nat.pow_add]
 exact Nat.mul_le_mul_left _ (Nat.pow_le_pow_right (by omega) (by omega))
theorem big_le {k:Nat}(h:k+j≤110): (k+j)*4 ^ (k+j)≤B289:=by
 refine Nat.le_trans (Nat.mul_le_mul h (Nat.pow_le_pow_right (by omega) h)) (by unfold B289; decide)
theorem lat_times {k:Nat}{x y:E3}(hx:Lat k x)(hy:Lat j y)(hkj:k+j≤110): TimesOK x y∧Lat (k+j) (timesE x y):=by
 have x1:=hx.m
 have y1:=hy.m
 have x2:=hx.vlo
 have y2:=hy.vlo
 have x3:=hx.vhi
 have y3:=hy.vhi
 have xt:=hx.t
 have yt:=hy.t
 have hbig:=big_le hkj
 have hsum:k*4 ^ (k+j)+j*4 ^ (k+j)=(k+j)*4 ^ (k+j):=(Nat.add_mul _ _ _).symm
 have kk1:=kk (k:=k) (j:=j)
 have jj1:=jj (k:=k) (j:=j)
 have ax:∀ s:Int,0≤s→s≤x.v+k+j→x.u.natAbs*2 ^ s.toNat≤k*4 ^ (k+j):=fun s h0 h1=>by
  refine Nat.le_trans (mul_p2 (q:=(x.v+k).toNat+j) (by omega)) ?_
  rw[Nat.pow_add,← Nat.mul_assoc]
  exact Nat.le_trans (Nat.mul_le_mul_right _ xt) kk1
 have ay:∀ s:Int,0≤s→s≤y.v+j+2*k→y.u.natAbs*2 ^ s.toNat≤j*4 ^ (k+j):=fun s h0 h1=>by
  refine Nat.le_trans (mul_p2 (q:=(y.v+j).toNat+2*k) (by omega)) ?_
  rw[Nat.pow_add,← Nat.mul_assoc]
  exact Nat.le_trans (Nat.mul_le_mul_right _ yt) jj1
 have ax0:=ax 0 (by omega) (by omega)
 have ay0:=ay 0 (by omega) (by omega)
 simp only[Int.toNat_zero,Nat.pow_zero,Nat.mul_one] at ax0 ay0
 generalize hP:k*4 ^ (k+j)=P at *
 generalize hQ:j*4 ^ (k+j)=Q at *
 have hr:=rr_le x y
 have hrlo:-((k+j:Nat):Int)≤rr x y:=by unfold rr; split <;>omega
 have hrhi:(rr x y).natAbs≤1000:=by unfold rr; split <;>omega
 have sx:=ax (x.v - rr x y) hr.1 (by omega)
 have sy:=ay (y.v+x.m - rr x y) hr.2 (by omega)
 rw[← shx_abs hr.1] at sx
 rw[← shx_abs hr.2] at sy
 have sxy:(shx x.u (x.v - rr x y)+shx y.u (y.v+x.m - rr x y)).natAbs≤B289:=by omega
 have al:∀ z:Int,z.natAbs≤B289→allowed z:=fun z hz=>allowed_B hz
 refine⟨⟨qC (by omega),qC (by omega),fun _=>zW (by omega) (by omega),fun _ _=>zW (by omega) (by omega),fun _ _=>⟨qC (by omega),qC (by omega),al _ (by omega),al _ (by omega),al _ sxy,zW sxy (by omega)⟩⟩,?_⟩
 unfold timesE
 split
 ·refine lat_plain (by omega) (fun _=>by omega) fun _=>?_
  have:=ay (y.v+x.m+(k+j:Nat)) (by omega) (by omega)
  rw[← hsum];omega
 ·split
  ·refine lat_plain (by omega) (fun _=>by omega) fun _=>?_
   have:=ax (x.v+(k+j:Nat)) (by omega) (by omega)
   rw[← hsum];omega
  ·refine lat_plain (by omega) (fun _=>by omega) fun _=>?_
   have b1:=ax (x.v+(k+j:Nat)) (by omega) (by omega)
   have b2:=ay (y.v+x.m+(k+j:Nat)) (by omega) (by omega)
   have e1:(x.v+(k+j:Nat)).toNat=(x.v - rr x y).toNat+(rr x y+(k+j:Nat)).toNat:=by omega
   have e2:(y.v+x.m+(k+j:Nat)).toNat=(y.v+x.m - rr x y).toNat+(rr x y+(k+j:Nat)).toNat:=by omega
   rw[e1,Nat.pow_add,← Nat.mul_assoc,← shx_abs hr.1] at b1
   rw[e2,Nat.pow_add,← Nat.mul_assoc,← shx_abs hr.2] at b2
   have b3:(shx x.u (x.v - rr x y)+shx y.u (y.v+x.m - rr x y)).natAbs≤(shx x.u (x.v - rr x y)).natAbs+(shx y.u (y.v+x.m - rr x y)).natAbs:=Int.natAbs_add_le _ _
   have b4:=Nat.mul_le_mul_right (2 ^ (rr x y+(k+j:Nat)).toNat) b3
   rw[Nat.add_mul] at b4
   rw[← hsum];omega
theorem lat_a (s:Int)(h:s=1∨s = -1): Lat 1 ⟨s,0,0⟩:=by
 rcases h with rfl | rfl
 ·exact⟨.inr rfl,by simp,fun _=>by simp,by decide⟩
 ·exact⟨.inr rfl,by simp,fun _=>by simp,by decide⟩
theorem lat_t (s:Int)(h:s=1∨s = -1): Lat 1 ⟨0,0,s⟩:=by
 rcases h with rfl | rfl
 ·exact⟨.inl ⟨rfl,rfl⟩,by simp,fun h=>absurd rfl h,by simp⟩
 ·exact⟨.inl ⟨rfl,rfl⟩,by simp,fun h=>absurd rfl h,by simp⟩
def powA (n:Int): E3:=plainE n 0 0
theorem powA_tq (n:Int): tq (powA n)=(n:Rat):=by unfold powA; rw[yn,qW,Rat.mul_one]
theorem powA_m (n:Int): (powA n).m=0:=plainE_m _ _ _
theorem powA_zero:powA 0=⟨0,0,0⟩:=rfl
theorem ze (n s:Int)(_h:s=1∨s = -1): timesE (powA n) ⟨s,0,0⟩=powA (n+s):=by
 refine yI (qH _ _) (yB _ _ _) ?_ ?_
 ·rw[zw,powA_m,powA_m];rfl
 ·rw[yH,powA_tq,powA_tq,powA_m,qW,Rat.intCast_add]
  simp[tq,qW]
theorem powA_ok {n:Int}(hn:n.natAbs≤1000)(s:Int)(h:s=1∨s = -1): TimesOK (powA n) ⟨s,0,0⟩:=by
 have hm:=powA_m n
 have hlow:lowE n≤240:=low_300 (b289 _ (Nat.le_trans hn (by decide)))
 have hu:(powA n).u.natAbs≤1000:=by
  unfold powA plainE; split
  ·simp
  ·show (shx n (-(lowE n:Int))).natAbs≤1000
   have h1:=y6 n
   have h2:=le_p2 (shx n (-(lowE n:Int))).natAbs (lowE n)
   omega
 have hv:0≤(powA n).v∧(powA n).v≤240:=by
  unfold powA plainE; split
  ·simp
  ·show 0≤0+(lowE n:Int)∧0+(lowE n:Int)≤240; omega
 have big:∀ {z:Int},z.natAbs≤2000→z.natAbs≤B289:=fun h=>b289 _ (Nat.le_trans h (by decide))
 have hs:s.natAbs=1:=by rcases h with rfl | rfl <;>rfl
 refine⟨qC (by rw[hm];simp),qC (by rw[hm];simp),fun _=>zW (big (by show s.natAbs≤2000; omega)) (by show (0+(powA n).m).natAbs≤_; rw[hm];simp),fun _ _=>zW (big (by omega)) (by omega),fun hu0 _=>?_⟩
 have hrr:rr (powA n) ⟨s,0,0⟩=0:=by
  unfold rr
  rw[if_neg (by show ¬ _<0+(powA n).m; rw[hm];omega)]
  show 0+(powA n).m=0; rw[hm];rfl
 have e1:shx (powA n).u ((powA n).v - 0)=n:=by
  unfold powA plainE
  split
  ·rename_i h0; exact absurd (by unfold powA plainE; rw[if_pos h0]) hu0
  ·show shx (shx n (-(lowE n:Int))) (0+(lowE n:Int) - 0)=n
   have:(0+(lowE n:Int) - 0) = -(-(lowE n:Int)):=by omega
   rw[this];exact shx_back zo
 have e2:shx s ((0:Int)+(powA n).m - 0)=s:=by
  rw[hm];show shx s ((0:Nat):Int)=s; rw[shx_nat];simp
 show allowed ((powA n).v - rr (powA n) ⟨s,0,0⟩)∧allowed (0+(powA n).m - rr (powA n) ⟨s,0,0⟩)∧allowed (shx (powA n).u ((powA n).v - rr (powA n) ⟨s,0,0⟩))∧allowed (shx s (0+(powA n).m - rr (powA n) ⟨s,0,0⟩))∧allowed (shx (powA n).u ((powA n).v - rr (powA n) ⟨s,0,0⟩)+shx s (0+(powA n).m - rr (powA n) ⟨s,0,0⟩))∧plainOK (shx (powA n).u ((powA n).v - rr (powA n) ⟨s,0,0⟩)+shx s (0+(powA n).m - rr (powA n) ⟨s,0,0⟩)) (rr (powA n) ⟨s,0,0⟩)
 rw[hrr,e1,e2]
 exact⟨qC (by omega),qC (by rw[hm];simp),qC (by omega),qC (by omega),qC (by omega),zW (big (by omega)) (by simp)⟩
end
end Sr
namespace Sr
open Go Go.Proofs Go.RowKit Go.Maps Go.WideMaps
section
variable {w w':World} {v':Value} {G:List E3}
theorem Gb.keep {v:Value}{e:TypeId}{s n:Nat}{xs:List Value}(hg:Gb w v w' v')(hr:w.ownsRow 0 e s v n xs){b:Nat}{c:Array Value}{T:TypeId}{z:Nat×Nat}(hb:w.heap[b]? = some (.cells c T z))(hT:T≠e∨z≠(0,0)): w'.heap[b]? = w.heap[b]? :=
 hg.fr.block b (jA hb).1 fun hm=>by
  obtain⟨c',hc'⟩:=jO hr (b:=b) (by simpa using hm)
  rw[hb] at hc'
  cases hc'
  rcases hT with h | h <;>exact h rfl
theorem Rd.pushO {B:Nat}{p:Nat}{ov gv:Value}{l:List Q3}{o:List UInt8}{c:UInt8}(h:Rd B w p ov gv l o G)(hB:B≤w.heap.size)(hg:Gb w ov w' v')(hr:BRow w' v' (o++[c])):
 Rd B (w'.setCell ⟨p,0,none⟩ v') p v' gv l (o++[c]) G:=by
 have hk:∀ (b:Nat) (c:Array Value) (T:TypeId),w.heap[b]? = some (.cells c T (0,0))→T≠5→w'.heap[b]? = w.heap[b]?:=fun b c T hb hT=>hg.keep h.out hb (.inl hT)
 have ho1:w'.heap[p]? = some (.cells #[ov,gv] 152 (0,0)):=(hk _ _ _ h.obj (by decide)).trans h.obj
 have hp2:∀ b,b≠p→(w'.setCell ⟨p,0,none⟩ v').heap[b]? = w'.heap[b]?:=fun b hb=>jS _ _ _ _ hb
 have hke:∀ {V:Value} {z:E3},IsE w V z→IsE (w'.setCell ⟨p,0,none⟩ v') V z:=fun hz=>hz.kept fun b c T hb hT=>by
  have hT2:T≠5∧T≠152:=by rcases hT with h | h | h <;>subst h <;>decide
  rw[hp2 b (jI ((hk _ _ _ hb hT2.1).trans hb) ho1 hT2.2)]
  exact hk _ _ _ hb hT2.1
 exact {
  obj:=heap_setCell_same w' p 0 _ 152 _ ho1
  out:=qZ hr fun b cur hb=>hp2 b (jI hb ho1 (by decide))
  row:=qZ h.row fun b cur hb=>by rw[hp2 b (jI ((hk _ _ _ hb (by decide)).trans hb) ho1 (by decide))];exact hk _ _ _ hb (by decide)
  len:=h.len
  els:=fun k u z hu hz=>hke (h.els k u z hu hz)
  hp:=h.hp,hg:=h.hg
  ho:=fun b hb=>by
   rcases hg.own with e | e
   ·exact h.ho b (e▸hb)
   ·have:=e b hb; omega }
theorem Rd.pushG {B:Nat}{p:Nat}{ov gv:Value}{l:List Q3}{o:List UInt8}(h:Rd B w p ov gv l o G)(hB:B≤w.heap.size)(hg:Gb w gv w' v')(hr:w'.ownsRow 0 28 3 v' (l.length+1) (qcl l++[.pointer none,.pointer none,.pointer none])):
 Rd B (w'.setCell ⟨p,1,none⟩ v') p ov v' (l++[⟨none,none,none⟩]) o (G++[⟨0,0,0⟩]):=by
 have hk:∀ (b:Nat) (c:Array Value) (T:TypeId),w.heap[b]? = some (.cells c T (0,0))→T≠28→w'.heap[b]? = w.heap[b]?:=fun b c T hb hT=>hg.keep h.row hb (.inl hT)
 have ho1:w'.heap[p]? = some (.cells #[ov,gv] 152 (0,0)):=(hk _ _ _ h.obj (by decide)).trans h.obj
 have hp2:∀ b,b≠p→(w'.setCell ⟨p,1,none⟩ v').heap[b]? = w'.heap[b]?:=fun b hb=>jS _ _ _ _ hb
 have hke:∀ {V:Value} {z:E3},IsE w V z→IsE (w'.setCell ⟨p,1,none⟩ v') V z:=fun hz=>hz.kept fun b c T hb hT=>by
  have hT2:T≠28∧T≠152:=by rcases hT with h | h | h <;>subst h <;>decide
  rw[hp2 b (jI ((hk _ _ _ hb hT2.1).trans hb) ho1 hT2.2)]
  exact hk _ _ _ hb hT2.1
 have hl:=h.len
 have e1:qcl l++[.pointer none,.pointer none,.pointer none]=qcl (l++[⟨none,none,none⟩]):=by rw[qcl_append];rfl
 rw[e1] at hr
 exact {
  obj:=heap_setCell_same w' p 1 _ 152 _ ho1
  out:=qZ h.out fun b cur hb=>by rw[hp2 b (jI ((hk _ _ _ hb (by decide)).trans hb) ho1 (by decide))];exact hk _ _ _ hb (by decide)
  row:=by
   rw[List.length_append]
   exact qZ hr fun b cur hb=>hp2 b (jI hb ho1 (by decide))
  len:=by simp[hl]
  els:=fun k u z hu hz=>by
   rcases Nat.lt_or_ge k l.length with hlt | hge
   ·rw[List.getElem?_append_left hlt] at hu
    rw[List.getElem?_append_left (by omega)] at hz
    exact hke (h.els k u z hu hz)
   ·rw[List.getElem?_append_right hge] at hu
    rw[List.getElem?_append_right (by omega)] at hz
    have e1:k - l.length=0:=by have:=(jL hu).1; simp at this; omega
    have e2:k - G.length=0:=by omega
    rw[e1] at hu; rw[e2] at hz
    simp at hu hz
    subst hu hz
    exact⟨none,none,none,rfl,j4 _,j4 _,j4 _⟩
  hp:=h.hp,ho:=h.ho
  hg:=fun b hb=>by
   rcases hg.own with e | e
   ·exact h.hg b (e▸hb)
   ·have:=e b hb; omega }
section
variable {ops:Array Oper} {rest:List Oper} {o:Oper} {a:Act} {Q:Exit→Act→World→Prop} {W:World}
theorem app_E1 (hgd:o.guard=none)(s x:Operand)(ho:o.op=.call { callee:=.builtin .append,args:=#[s,x],argTypes:=#[150,150] }) 
 (v:Value) (n:Nat) (l:List Value) (hs:a.eval s=v) (hown:W.ownsRow 0 28 3 v n l) (B:Nat) (hx:a.eval x=.slice (some ⟨B,0,none⟩) 1 1)
 (hB:W.heap[B]? = some (.cells #[.pointer none,.pointer none,.pointer none] 28 (0,0))) (hb:n+1≤1099511627776)
 (h:∀ v' w',w'.ownsRow 0 28 3 v' (n+1) (l++[.pointer none,.pointer none,.pointer none])→W.grownBy w' v.ownBlock→v'≠.slice none 0 0→(v'.ownBlock=v.ownBlock∨v'.ownBlock=some W.heap.size)→wpList Tryz.prog ops Q rest (a.put o.dst v') w') :
 wpList Tryz.prog ops Q (o::rest) a W:=by
 obtain⟨ii,hi,hz0,hz1,hz2⟩:=info_parts info28
 refine wpList_append_own_at _ hgd s x 150 ho 0 28 ii _ 3 24 un150 hi hz0 hz1 hz2 rfl (by decide) v n _ hs hown ⟨B,0,none⟩ 1 1 [.pointer none,.pointer none,.pointer none] hx rfl (fun j u hu=>World.news_of_block hB j u hu) (by simp; rfl) (by simp only[maxLen];omega) (by omega) (Nat.zero_le _) ?_
 intro v' w' k1 k2 k3 k4
 exact h v' w' k1 k2 (fun e=>by have:=(k3.1 e).2; omega) k4
end
def AllA (k:Nat)(G:List E3): Prop:=∀ (i:Nat) (x:E3),G[i]? = some x→∃ n:Int,x=powA n∧n.natAbs≤k
theorem AllA.zero:AllA 0 [Zero]:=fun i x h=>by
 rcases i with _ | i
 ·simp at h; subst h; exact⟨0,rfl,by simp⟩
 ·simp at h
theorem AllA.set {k:Nat}{G:List E3}(h:AllA k G){i:Nat}{x:E3}{s:Int}(hs:s=1∨s = -1)(hi:G[i]? = some x): AllA (k+1) (G.set i (timesE x ⟨s,0,0⟩)):=fun j y hy=>by
 rw[List.getElem?_set] at hy
 split at hy
 ·split at hy
  ·cases hy
   obtain⟨n,rfl,hn⟩:=h i x hi
   exact⟨n+s,ze n s hs,by rcases hs with rfl | rfl <;>omega⟩
  ·cases hy
 ·obtain⟨n,h1,h2⟩:=h j y hy
  exact⟨n,h1,by omega⟩
theorem AllA.push {k:Nat}(h:AllA k G): AllA (k+1) (G++[Zero]):=fun j y hy=>by
 rcases Nat.lt_or_ge j G.length with hlt | hge
 ·rw[List.getElem?_append_left hlt] at hy
  obtain⟨n,h1,h2⟩:=h j y hy
  exact⟨n,h1,by omega⟩
 ·rw[List.getElem?_append_right hge] at hy
  have e2:j - G.length=0:=by have:=(jL hy).1; simp at this; omega
  rw[e2] at hy; simp at hy; subst hy
  exact⟨0,rfl,by simp⟩
end
end Sr
namespace Sr
def Lt (l:List UInt8): Prop:=∀ c∈l,c=97∨c=65∨c=98∨c=66
end Sr
