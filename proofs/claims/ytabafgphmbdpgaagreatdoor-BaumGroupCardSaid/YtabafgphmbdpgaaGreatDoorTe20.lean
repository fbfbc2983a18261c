/- Texts of this claim, joined: Bytes, Terms. -/
import Derived.Test.YtabafgphmbdpgaaGreatDoorTe1
import Derived.Test.YtabafgphmbdpgaaGreatDoorTe19
set_option maxHeartbeats 8000000
set_option maxRecDepth 100000
namespace Sr
open Go Go.Proofs Go.RowKit Go.Maps Go.WideMaps
section
def tw (n:Nat): List UInt8:=[UInt8.ofNat (n / 256),UInt8.ofNat n]
def sb (s:Bool): UInt8:=if s then 1 else 0
def wl (l:List PT): List UInt8:=tw l.length++l.flatMap fun t=>sb t.1::tw t.2
noncomputable def nbytes (x:Int): List UInt8:=tw ((Sr.parts x).length+1)++((Sr.parts x).flatMap fun (p:Nat)=>wl (atPl (Sr.parts x) (p:Int)))++wl (atPl (Sr.parts x) x)
theorem yb (n:Nat): (tw n).length=2:=rfl
theorem tw_cells (n:Nat): (#[Value.int .u8 ((n:Int) / 256 % 256),.int .u8 ((n:Int) % 256)]).toList=(tw n).map fun b=>.int .u8 (b.toNat:Nat):=by
 simp only[tw,List.map_cons,List.map_nil,u8z]
 simp
structure Gb (W:World)(v:Value)(W':World)(v':Value): Prop where
 fr:Fr v.ownBlock.toList W W'
 own:v'.ownBlock=v.ownBlock∨∀ b,v'.ownBlock=some b→W.heap.size≤b
variable {w3 w1:World} {v v' ov:Value} {b3:Nat} {x:Int}
theorem Gb.of {W:World}{o:Obj}(G:(W.alloc o).grownBy w3 v.ownBlock)(A:v'.ownBlock=v.ownBlock∨v'.ownBlock=some (W.alloc o).heap.size): Gb W v w3 v':=by
 refine⟨⟨G.os,G.tape,G.output,by have:=G.size; simp at this; omega,fun b hb hn=>?_⟩,?_⟩
 ·exact (G.block b (by simp; omega) (fun e=>hn (by simp[← e]))).trans (jE _ _ hb)
 ·rcases A with A | A
  ·exact .inl A
  ·refine .inr fun b e=>?_
   rw[A] at e
   have:b=W.heap.size+1:=by simpa using e.symm
   omega
theorem Gb.trans {W W' W'':World}{v v' v'':Value}(h:Gb W v W' v')(k:Gb W' v' W'' v''): Gb W v W'' v'':=by
 have hs:=h.fr.size
 refine⟨⟨k.fr.os.trans h.fr.os,k.fr.tape.trans h.fr.tape,k.fr.output.trans h.fr.output,Nat.le_trans hs k.fr.size,fun b hb hn=>?_⟩,?_⟩
 ·rw[k.fr.block b (by omega) (fun e=>by
   have e':v'.ownBlock=some b:=by simpa using e
   rcases h.own with h1 | h1
   ·exact hn (by rw[← h1];exact e)
   ·have:=h1 b e'; omega)]
  exact h.fr.block b hb hn
 ·rcases k.own with k1 | k1
  ·rcases h.own with h1 | h1
   ·exact .inl (k1.trans h1)
   ·exact .inr fun b e=>h1 b (k1▸e)
  ·exact .inr fun b e=>Nat.le_trans hs (k1 b e)
theorem Gb.at {W:World}{o:Obj}{g n cap H:Nat}(G:(W.alloc o).grownBy w3 v.ownBlock)(hH:(W.alloc o).heap.size=H)(A:v.ownBlock=some g∨g=H): Gb W v w3 (.slice (some ⟨g,0,none⟩) n cap) :=
 Gb.of G (by
  rcases A with A | A
  ·exact .inl A.symm
  ·exact .inr (by rw[hH,A];rfl))
theorem BRow.form {W:World}{v:Value}{l:List UInt8}(h:BRow W v l)(hn:0<l.length): ∃ g cap,v=.slice (some ⟨g,0,none⟩) l.length cap:=by
 obtain⟨g,cap,hv,_⟩:=World.ownsRow.form h hn
 exact⟨g,cap,hv⟩
theorem two_calls {W:World}{l:List UInt8}{n:Nat}(h:BRow W v l)(_hn:n≤1000000)(hl:l.length≤1000000000):
 Calls Tryz.prog 108 #[v,.int .i64 (n:Nat)] W fun e W'=>∃ v',e=.returned v'∧Hid (BRow W' v' (l++tw n))∧Hid (Gb W v W' v'):=by
 have HR:=jH h
 have hlb:l.length+2≤1099511627776:=by omega
 have n0:(0:Int)≤(n:Int):=Int.natCast_nonneg n
 clear h
 go_enter Tryz.func108,Tryz.ntmps108
 go_wp2_with (at_builtin; go_loud (refine app_B rfl _ _ rfl v l rfl (World.ownsRow.alloc HR.out _) _ 2 (tw n) rfl rfl _ (tw_cells n) (jD _ _) hlb ?_);intro v' w3 K3 G3 A3
              have HK:=jH K3
              have HG:=jH (Gb.of G3 A3)
              clear K3 G3 A3)
 go_ret
 exact⟨v',rfl,HK,HG⟩
section
variable {ops:Array Oper} {o:Oper} {a:Act} {Q:Exit→Act→World→Prop} {K:Act→World→Prop} {W:World} {E:Prop}
theorem step_B1 (hgd:o.guard=none)(s x:Operand)(ho:o.op=.call { callee:=.builtin .append,args:=#[s,x],argTypes:=#[40,40] }) 
 (v:Value) (l:List UInt8) (hs:a.eval s=v) (hown:BRow W v l) (B:Nat) (b:UInt8) (hx:a.eval x=.slice (some ⟨B,0,none⟩) 1 1) (c:Int) (hc:c=(b.toNat:Nat))
 (hB:W.heap[B]? = some (.cells #[.int .u8 c] 5 (0,0))) (hb:l.length+1≤1099511627776) (H:Nat) (hH:W.heap.size=H)
 (h:∀ g cap w',BRow w' (.slice (some ⟨g,0,none⟩) (l.length+1) cap) (l++[b])→W.grownBy w' v.ownBlock→(v.ownBlock=some g∨g=H)→g<w'.heap.size→K (a.put o.dst (.slice (some ⟨g,0,none⟩) (l.length+1) cap)) w') :
 if Region.wanted o (yielded ops a.tmps)=true then Oper.wp Tryz.prog o a W K Q else E:=by
 obtain⟨i,hi,hz0,hz1,hz2⟩:=info_parts info5
 subst hc
 refine step_append_lies W hgd s x 40 ho 0 5 i _ 1 1 un40 hi hz0 hz1 hz2 rfl (by decide) v l.length _ hs hown ⟨B,0,none⟩ 1 1 [.int .u8 (b.toNat:Nat)] hx rfl (fun j u hu=>World.news_of_block hB j u hu) (by simp; rfl) (by omega) (by simp only[maxLen];omega) (by omega) (Nat.zero_le _) H hH ?_
 intro g cap w' k1 k2 k3 k4
 refine h g cap w' ?_ k2 k3 k4
 unfold BRow
 rw[List.length_append,List.map_append];exact k1
end
structure OB (w1:World)(b3:Nat)(l:List UInt8)(ov:Value)(w:World): Prop where
 fr:Fr [b3] w1 w
 box:w.heap[b3]? = some (.cells #[ov] 40 (0,0))
 row:BRow w ov l
 own:∀ b,ov.ownBlock=some b→w1.heap.size≤b
theorem OB.below {w w':World}{l:List UInt8}(S:OB w1 b3 l ov w)(hb:Below w.heap.size w w'): OB w1 b3 l ov w' :=
 ⟨⟨hb.os.trans S.fr.os,hb.tape.trans S.fr.tape,hb.output.trans S.fr.output,Nat.le_trans S.fr.size hb.size,fun c hc hn=>(hb.block c (Nat.lt_of_lt_of_le hc S.fr.size)).trans (S.fr.block c hc hn)⟩,Below.here hb S.box,jK S.row hb,S.own⟩
theorem OB.store {w:World}{l l':List UInt8}(S:OB w1 b3 l ov w)(hr:BRow w3 v' l')(hg:Gb w ov w3 v'):
 w3.cell? ⟨b3,0,none⟩=some ov∧w3.frozen? ⟨b3,0,none⟩=false∧OB w1 b3 l' v' (w3.setCell ⟨b3,0,none⟩ v'):=by
 have hs:=S.fr.size
 have hne:ov.ownBlock≠some b3:=fun e=>by
  obtain⟨c,hc⟩:=jO S.row e
  exact jI hc S.box (by decide) rfl
 have h3:w3.heap[b3]? = some (.cells #[ov] 40 (0,0)):=(hg.fr.block b3 (jA S.box).1 (by simpa using hne)).trans S.box
 have hs3:=hg.fr.size
 refine⟨by rw[jB h3];rfl,jF h3 0,⟨⟨hg.fr.os.trans S.fr.os,hg.fr.tape.trans S.fr.tape,hg.fr.output.trans S.fr.output,by simp; omega,fun b hb hn=>?_⟩,heap_setCell_same w3 b3 0 _ 40 _ h3,?_,fun b e=>?_⟩⟩
 ·have hb3:b≠b3:=by simpa using hn
  rw[jS _ _ _ _ (by show b≠b3; exact hb3),hg.fr.block b (by omega) (fun h=>by have:=S.own b (by simpa using h);omega)]
  exact S.fr.block b hb hn
 ·exact jJ hr fun b e=>jS _ _ _ _ (by
   show b≠b3
   obtain⟨c,hc⟩:=jO hr e
   exact jI hc h3 (by decide))
 ·rcases hg.own with h | h
  ·exact S.own b (h▸e)
  ·have:=h b e; omega
def WrQ (w1:World)(b3:Nat)(l:List UInt8)(e:Ending)(W':World): Prop:=∃ ov',e=.returned (.tuple #[])∧Hid (OB w1 b3 l ov' W')
theorem write_calls {W:World}{acc:List UInt8}(S:Hid (OB w1 b3 acc ov W)){l:List PT}(hl:TRow w1 v l)(hvb:∀ b,v.ownBlock=some b→b≠b3)(hn:l.length≤300)(hp:∀ t∈l,t.2≤2000)(ha:acc.length≤900000000):
 Calls Tryz.prog 110 #[v,.pointer (some ⟨b3,0,none⟩)] W (WrQ w1 b3 (acc++wl l)):=by
 have HL:=jH hl
 have HVB:Hid (∀ b,v.ownBlock=some b→b≠b3):=hvb
 have HP:Hid (∀ t∈l,t.2≤2000):=hp
 have HA:Hid (acc.length≤900000000):=ha
 obtain⟨va,vc,rfl,_,_⟩:=hl.shape
 obtain⟨n,hnl⟩:∃ n,n=l.length:=⟨_,rfl⟩
 have HNl:=jH hnl
 rw[← hnl] at HL HVB hn ⊢
 have H2:=two_calls (n:=n) S.out.row (by omega) (by omega)
 have c3:W.cell? ⟨b3,0,none⟩=some ov:=by rw[jB S.out.box];rfl
 clear hl hp ha hnl hvb
 go_enter Tryz.func110,Tryz.ntmps110
 go_wp2_with fail
 refine H2.mono ?_
 rintro e w2 ⟨v2,rfl,hr2,hg2⟩
 obtain⟨c2,f2,hob⟩:=S.out.store hr2.out hg2.out
 obtain⟨g2,p2,hv2⟩:=hr2.out.form (by simp[yb])
 obtain⟨N2,hN2⟩:∃ N2,N2=(acc++tw n).length:=⟨_,rfl⟩
 rw[← hN2] at hv2
 subst hv2
 have S0:Hid (OB w1 b3 (acc++(tw n++(l.take 0).flatMap fun t=>sb t.1::tw t.2)) (.slice (some ⟨g2,0,none⟩) N2 p2) (w2.setCell ⟨b3,0,none⟩ (.slice (some ⟨g2,0,none⟩) N2 p2))):=by
  show OB _ _ _ _ _
  simpa using hob
 clear H2 hr2 hg2 hob c3 S hN2
 go_wp2_with fail
 go_loopg [12] n (fun g1 vi wr=>∃ (k:Nat) (ov:Value),vi=.int .i64 k∧k≤n∧n - k≤g1∧Hid (OB w1 b3 (acc++(tw n++(l.take k).flatMap fun t=>sb t.1::tw t.2)) ov wr))
 case atStart=>exact⟨0,_,rfl,by omega,by omega,S0⟩
 case round =>
  clear S0 c2 f2
  obtain⟨k,ov,rfl,hkn,hg,HS⟩:=hrel
  by_cases hk:k<n
  ·have hkz:(k:Int)<(n:Int):=by omega
   have hk0:(0:Int)≤(k:Int):=Int.natCast_nonneg k
   have hkw:IntKind.i64.wrap ((k:Int)+1)=(k:Int)+1:=IntWalk.i64_in _ (by omega)
   obtain⟨t,ht⟩:∃ t,l[k]? = some t:=⟨_,jG (by rw[← HNl.out];exact hk)⟩
   have htp:=HP.out t (jM ht)
   have hrw:TRow wr (.slice va n vc) l:=jJ HL.out fun b e=>HS.out.fr.block b (jP HL.out e) (by
    have:=HVB.out b e
    simpa using this)
   obtain⟨_,_,ea,_,sa⟩:=hrw.shape
   obtain⟨ga,hga,cx0,cx1⟩:=sa k t ht
   obtain⟨q1,q2,q3⟩:=Value.slice.inj ea
   subst hga
   subst q1
   clear q2 q3 ea sa hrw
   obtain⟨L,hL⟩:∃ L,L=acc++(tw n++(l.take k).flatMap fun t=>sb t.1::tw t.2):=⟨_,rfl⟩
   have HLe:Hid (acc++(tw n++(l.take (k+1)).flatMap fun t=>sb t.1::tw t.2)=L++[sb t.1]++tw t.2):=by
    show _=_
    rw[hL,j8 ht,List.flatMap_append]
    simp[List.append_assoc]
   have hLl:L.length≤900002000:=by
    have key:∀ m:List PT,(m.flatMap fun t=>sb t.1::tw t.2).length=3*m.length:=by
     intro m
     induction m with
     | nil=>rfl
     | cons u m ih=>simp only[List.flatMap_cons,List.length_append,List.length_cons,yb,ih];omega
    rw[hL,List.length_append,List.length_append,key,List.length_take,yb]
    have:=HA.out
    omega
   rw[← hL] at HS
   obtain⟨sx,a⟩:=t
   dsimp only at cx0 cx1 htp HLe
   have hgl:ga<wr.heap.size:=jg cx0
   have hgs:ga≠wr.heap.size:=by omega
   have HSA:=jH (HS.out.below (w':=(wr.alloc (.cells #[.bool sx,.int .i64 (a:Nat)] 154))) ((Below.refl _ _).alloc (jR _) _))
   have hcb:((wr.alloc (.cells #[.bool sx,.int .i64 (a:Nat)] 154))).cell? ⟨b3,0,none⟩=some ov:=by rw[jB HSA.out.box];rfl
   have e154:((wr.alloc (.cells #[.bool sx,.int .i64 (a:Nat)] 154))).heap[wr.heap.size]? = some (.cells #[.bool sx,.int .i64 (a:Nat)] 154 (0,0)):=jD wr _
   have E154:=jH e154
   have HT:=jH ht
   have hbA:∀ o,((wr.alloc (.cells #[.bool sx,.int .i64 (a:Nat)] 154)).alloc o).cell? ⟨b3,0,none⟩=some ov:=fun o=>by rw[jB ((jE _ _ (jA HSA.out.box).1).trans HSA.out.box)];rfl
   have hlb:L.length+1≤1099511627776:=by omega
   clear hL ht e154
   cases sx
   ·
    go_wp2_with fail
    go_region_law (first
     | (refine step_B1 rfl (.tmp 18) (.tmp 20) rfl ov L rfl (World.ownsRow.alloc HSA.out.row _) _ (sb false) rfl 0 rfl (j7 (w:=wr.alloc (.cells #[.bool false,.int .i64 (a:Nat)] 154)) (o:=.cells #[.int .u8 0] 5) (by simp)) hlb _ rfl ?_; intro g cap w7 I7 G7 A7 L7
        have HG7:=jH (Gb.at (W:=wr.alloc (.cells #[.bool false,.int .i64 (a:Nat)] 154)) (o:=.cells #[.int .u8 0] 5) (n:=L.length+1) (cap:=cap) ⟨G7.os,G7.tape,G7.output,G7.size,G7.block⟩ rfl A7)
        have h154:=(HG7.out.fr.block _ (by simp) (fun e=>by
         have e':ov.ownBlock=some wr.heap.size:=by simpa using e
         have:=jP HS.out.row e'; omega)).trans E154.out
        have c154:w7.cell? ⟨wr.heap.size,1,none⟩=some (.int .i64 (a:Nat)):=by rw[jB h154];rfl
        have H2b:=two_calls (n:=a) (W:=w7) (v:=.slice (some ⟨g,0,none⟩) (L.length+1) cap) (l:=L++[sb false]) I7 (by omega) (by simp; omega)
        clear I7 G7 A7 L7 h154)
     | (go_simp; go_at_call 108; refine H2b.mono ?_; rintro z w8 ⟨v8,rfl,hr8,hg8⟩
        obtain⟨c8,f8,hob⟩:=HSA.out.store hr8.out (HG7.out.trans hg8.out)
        obtain⟨g8,p8,hv8⟩:=hr8.out.form (by simp[yb])
        obtain⟨N8,hN8⟩:∃ N8,N8=(L++[sb false]++tw a).length:=⟨_,rfl⟩
        rw[← hN8] at hv8
        subst hv8
        have HOb:=jH hob
        clear hr8 hg8 hob hN8))
    all_goals
     clear H2b HG7 c154 c8 f8 hbA hcb cx0 cx1
     go_wp2_with fail
     go_roundg (n - (k+1))
     case measure=>omega
     case rel=>exact⟨k+1,_,by go_num,by omega,by omega,by show OB _ _ _ _ _; rw[HLe.out];exact HOb.out⟩
   ·
    go_wp2_with fail
    go_region_law (first
     | (refine step_B1 rfl (.tmp 18) (.tmp 20) rfl ov L rfl (World.ownsRow.alloc HSA.out.row _) _ (sb true) rfl 1 rfl (j7 (w:=wr.alloc (.cells #[.bool true,.int .i64 (a:Nat)] 154)) (o:=.cells #[.int .u8 1] 5) (by simp)) hlb _ rfl ?_; intro g cap w7 I7 G7 A7 L7
        have HG7:=jH (Gb.at (W:=wr.alloc (.cells #[.bool true,.int .i64 (a:Nat)] 154)) (o:=.cells #[.int .u8 1] 5) (n:=L.length+1) (cap:=cap) ⟨G7.os,G7.tape,G7.output,G7.size,G7.block⟩ rfl A7)
        have h154:=(HG7.out.fr.block _ (by simp) (fun e=>by
         have e':ov.ownBlock=some wr.heap.size:=by simpa using e
         have:=jP HS.out.row e'; omega)).trans E154.out
        have c154:w7.cell? ⟨wr.heap.size,1,none⟩=some (.int .i64 (a:Nat)):=by rw[jB h154];rfl
        have H2b:=two_calls (n:=a) (W:=w7) (v:=.slice (some ⟨g,0,none⟩) (L.length+1) cap) (l:=L++[sb true]) I7 (by omega) (by simp; omega)
        clear I7 G7 A7 L7 h154)
     | (go_simp; go_at_call 108; refine H2b.mono ?_; rintro z w8 ⟨v8,rfl,hr8,hg8⟩
        obtain⟨c8,f8,hob⟩:=HSA.out.store hr8.out (HG7.out.trans hg8.out)
        obtain⟨g8,p8,hv8⟩:=hr8.out.form (by simp[yb])
        obtain⟨N8,hN8⟩:∃ N8,N8=(L++[sb true]++tw a).length:=⟨_,rfl⟩
        rw[← hN8] at hv8
        subst hv8
        have HOb:=jH hob
        clear hr8 hg8 hob hN8))
    all_goals
     clear H2b HG7 c154 c8 f8 hbA hcb cx0 cx1
     go_wp2_with fail
     go_roundg (n - (k+1))
     case measure=>omega
     case rel=>exact⟨k+1,_,by go_num,by omega,by omega,by show OB _ _ _ _ _; rw[HLe.out];exact HOb.out⟩
  ·have hkz:¬ ((k:Int)<(n:Int)):=by omega
   go_wp2_with fail
   go_end0
   refine⟨ov,rfl,?_⟩
   have h:=HS.out
   rw[List.take_of_length_le (by have:=HNl.out; omega),HNl.out] at h
   exact h
theorem wl_len (l:List PT): (wl l).length=2+3*l.length:=by
 have key:∀ m:List PT,(m.flatMap fun t=>sb t.1::tw t.2).length=3*m.length:=by
  intro m
  induction m with
  | nil=>rfl
  | cons u m ih=>simp only[List.flatMap_cons,List.length_append,List.length_cons,yb,ih];omega
 unfold wl
 rw[List.length_append,key,yb]
theorem atPl_bd (l:List Nat)(x:Int): ∀ t∈atPl l x,t.2≤l.length:=fun t ht=>by
 obtain⟨u,_,rfl⟩:=List.mem_map.1 ht
 exact List.idxOf_le_length
theorem flat_bd (hp:∀ p∈Sr.parts x,(form ((p:Nat):Int)).length≤300)(k:Nat): (((Sr.parts x).take k).flatMap fun (p:Nat)=>wl (atPl (Sr.parts x) (p:Int))).length≤902*k:=by
 induction k with
 | zero=>simp
 | succ k ih =>
   rcases Nat.lt_or_ge k (Sr.parts x).length with h | h
   ·rw[List.take_add_one,jG h,List.flatMap_append,List.length_append]
    have h1:=hp _ (List.getElem_mem h)
    simp only[Option.toList_some,List.flatMap_cons,List.flatMap_nil,List.append_nil,wl_len]
    have:(atPl (Sr.parts x) ((Sr.parts x)[k]:Int)).length≤300:=by simpa [atPl] using h1
    omega
   ·rw[List.take_of_length_le (by omega)] at ih ⊢
    omega
theorem Weight_calls {W:World}(hx:IsN W v x): Calls Tryz.prog 109 #[v] W fun e W'=>e=.returned (.int .i64 ((Sr.parts x).length+1:Nat))∧Hid (Below W.heap.size W W'):=by
 obtain⟨q,rfl⟩:=hx.ptr
 have hb:=hx.1.2.2.1
 obtain⟨pv,sv,fl,HR0⟩:=hx.get'
 have HR:Hid (∀ w',Below W.heap.size W w'→Rows w' (.agg #[.pointer q]) x pv sv fl):=HR0
 obtain⟨n,hn⟩:∃ n,n=(Sr.parts x).length:=⟨_,rfl⟩
 obtain⟨pa,pc,hpv⟩:∃ pa pc,pv=.slice pa (Sr.parts x).length pc:=by
  obtain⟨_,⟨q1,q2⟩ | ⟨g,cap,cur,q1,_⟩⟩:=(HR0 W (Below.refl _ _)).prow
  ·exact⟨none,0,by rw[q1,q2]⟩
  ·exact⟨_,cap,q1⟩
 rw[← hn] at hpv hb ⊢
 subst hpv
 have hs:=fun w' hb=>(HR.out w' hb).parts
 have HB:Hid (Below W.heap.size W (W.alloc (.cells #[.pointer q] 26))):=(Below.refl _ _).alloc (jR _) _
 have hw:IntKind.i64.wrap ((n:Int)+1)=(n:Int)+1:=IntWalk.i64_in _ (by omega)
 clear HR0 hx hn
 go_enter Tryz.func109,Tryz.ntmps109
 go_wp2_with fail
 refine (hs _ HB.out).mono ?_
 rintro e w1 ⟨rfl,o,rfl⟩
 clear hs
 go_wp2_with fail
 go_ret
 exact⟨by go_num,HB.out.alloc (by simp) o⟩
def BtQ (x:Int)(W:World)(e:Ending)(W':World): Prop:=∃ v',e=.returned v'∧Hid (BRow W' v' (nbytes x))∧Hid (Below W.heap.size W W')∧Hid (∀ b,v'.ownBlock=some b→W.heap.size≤b)
theorem Bytes_calls {W:World}(hx:IsN W v x): Calls Tryz.prog 69 #[v] W (BtQ x W):=by
 obtain⟨q,rfl⟩:=hx.ptr
 have HX:=jH hx
 have hb:=hx.1.2.2.1
 obtain⟨pv,sv,fl,HR0⟩:=hx.get'
 have HR:Hid (∀ w',Below W.heap.size W w'→Rows w' (.agg #[.pointer q]) x pv sv fl):=HR0
 obtain⟨n,hn⟩:∃ n,n=(Sr.parts x).length:=⟨_,rfl⟩
 obtain⟨pa,pc,hpv⟩:∃ pa pc,pv=.slice pa (Sr.parts x).length pc:=by
  obtain⟨_,⟨q1,q2⟩ | ⟨g,cap,cur,q1,_⟩⟩:=(HR0 W (Below.refl _ _)).prow
  ·exact⟨none,0,by rw[q1,q2]⟩
  ·exact⟨_,cap,q1⟩
 have HNp:=jH hn
 rw[← hn] at hpv hb
 subst hpv
 have HB0:Hid (Below W.heap.size W (W.alloc (.cells #[.pointer q] 26))):=(Below.refl _ _).alloc (jR _) _
 have HWt:=Weight_calls (HX.out.below HB0.out)
 rw[← hn] at HWt
 have HXq:Hid ((W.alloc (.cells #[.pointer q] 26)).heap[W.heap.size]? = some (.cells #[.pointer q] 26 (0,0))):=jD W _
 clear HR0 hx hn
 go_enter Tryz.func69,Tryz.ntmps69
 go_wp2_with fail
 refine HWt.mono ?_
 rintro e w1 ⟨rfl,hb1⟩
 have HB1:=jH (Below.trans' HB0.out hb1.out)
 have HX1:=jH (Below.here hb1.out HXq.out)
 have H2:=two_calls (W:=w1) (v:=.slice none 0 0) (l:=[]) (n:=n+1) ⟨rfl,.inl ⟨rfl,rfl⟩⟩ (by omega) (by simp)
 clear HWt hb1
 go_wp2_with fail
 refine H2.mono ?_
 rintro e w2 ⟨v2,rfl,hr2,hg2⟩
 obtain⟨g2,p2,hv2⟩:=hr2.out.form (by simp[yb])
 have hN2:(([]:List UInt8)++tw (n+1)).length=2:=rfl
 rw[hN2] at hv2
 subst hv2
 have HB2:Hid (Below W.heap.size W w2):=qL (F:=[]) HB1.out (by simp) hg2.out.fr
 have HX2:Hid (w2.heap[W.heap.size]? = some (.cells #[.pointer q] 26 (0,0))):=by
  have hlt:=(jA HX1.out).1
  exact (hg2.out.fr.block _ hlt (by simp[Value.ownBlock])).trans HX1.out
 have HR2:=jH hr2.out
 have HB12:Hid (Below w1.heap.size w1 w2):=⟨hg2.out.fr.os,hg2.out.fr.tape,hg2.out.fr.output,hg2.out.fr.size,fun b hb=>hg2.out.fr.block b hb (by simp[Value.ownBlock])⟩
 have c2:∀ o,(w2.alloc o).cell? ⟨W.heap.size,0,none⟩=some (.pointer q):=fun o=>by rw[jB ((jE _ _ (jA HX2.out).1).trans HX2.out)];rfl
 have HOw:Hid (∀ b,(Value.slice (some ⟨g2,0,none⟩) 2 p2).ownBlock=some b→w1.heap.size≤b):=fun b e=>by
  rcases hg2.out.own with h | h
  ·rw[h] at e; cases e
  ·exact h b e
 have HPt:=(HR.out _ (HB2.out.alloc HB2.out.size (.cells #[.slice (some ⟨g2,0,none⟩) 2 p2] 40))).parts
 clear H2 hr2 hg2 hN2
 go_wp2_with fail
 refine HPt.mono ?_
 rintro e w3 ⟨rfl,o3,rfl⟩
 clear HPt
 go_wp2_with fail
 obtain⟨w4,hw4⟩:∃ w4,w4=(w2.alloc (.cells #[.slice (some ⟨g2,0,none⟩) 2 p2] 40)).alloc o3:=⟨_,rfl⟩
 rw[← hw4]
 have HB4:Hid (Below W.heap.size W w4):=by show Below _ _ _; rw[hw4];exact (HB2.out.alloc HB2.out.size _).alloc (by have:=HB2.out.size; simp; omega) _
 have HX4:Hid (w4.heap[W.heap.size]? = some (.cells #[.pointer q] 26 (0,0))):=by
  have hlt:=(jA HX2.out).1
  show _=_; rw[hw4,jE _ _ (by simp; omega),jE _ _ hlt];exact HX2.out
 have hz4:w4.heap.size=w2.heap.size+2:=by rw[hw4];simp
 have HRws:=jH (HR.out w1 HB1.out)
 have hz12:w1.heap.size≤w2.heap.size:=HB12.out.size
 have S0:Hid (OB w1 w2.heap.size (tw (n+1)++((Sr.parts x).take 0).flatMap fun (p:Nat)=>wl (atPl (Sr.parts x) (p:Int))) (.slice (some ⟨g2,0,none⟩) 2 p2) w4):=by
  refine⟨Fr.of_below ?_,?_,?_,HOw.out⟩
  ·rw[hw4];exact (HB12.out.alloc HB12.out.size _).alloc (by simp; omega) _
  ·rw[hw4,jE _ _ (by simp)];exact jD w2 _
  ·have h:=World.ownsRow.alloc (World.ownsRow.alloc HR2.out (.cells #[.slice (some ⟨g2,0,none⟩) 2 p2] 40)) o3
   rw[← hw4] at h
   simpa [BRow] using h
 have hWlt:W.heap.size<w1.heap.size:=(jA HX1.out).1
 clear hw4 c2 HR2
 go_loopg [14] n (fun g1 vi wr=>∃ (k:Nat) (ov:Value),vi=.int .i64 k∧k≤n∧n - k≤g1∧Hid (OB w1 w2.heap.size (tw (n+1)++((Sr.parts x).take k).flatMap fun (p:Nat)=>wl (atPl (Sr.parts x) (p:Int))) ov wr))
 case atStart=>exact⟨0,_,rfl,by omega,by omega,S0⟩
 case round =>
  clear S0
  obtain⟨k,ov,rfl,hkn,hg,HS⟩:=hrel
  have hfb:=flat_bd (x:=x) HX.out.1.2.1 k
  have keep:∀ b,b<w1.heap.size→wr.heap[b]? = w1.heap[b]?:=fun b hb=>HS.out.fr.block b hb (by simp; omega)
  have hacc:(tw (n+1)++((Sr.parts x).take k).flatMap fun (p:Nat)=>wl (atPl (Sr.parts x) (p:Int))).length≤900000000:=by rw[List.length_append,yb];omega
  by_cases hk:k<n
  ·have hkz:(k:Int)<(n:Int):=by omega
   have hk0:(0:Int)≤(k:Int):=Int.natCast_nonneg k
   have hkw:IntKind.i64.wrap ((k:Int)+1)=(k:Int)+1:=IntWalk.i64_in _ (by omega)
   obtain⟨p,hp⟩:∃ p,(Sr.parts x)[k]? = some p:=⟨_,jG (by rw[← HNp.out];exact hk)⟩
   obtain⟨u,hu,hru⟩:=HRws.out.rows k p hp
   obtain⟨gp,cp,heq,cq⟩:=qS (jJ (W':=wr) HRws.out.prow fun b e=>keep b (jP HRws.out.prow e)) hu
   obtain⟨e1,e2,e3⟩:=Value.slice.inj heq
   subst e1
   clear e2 e3 heq
   have HWr:=write_calls HS hru (fun b e=>by have:=jP hru e; omega) (by have:=HX.out.1.2.1 p (jM hp);simpa [atPl] using this) (fun t ht=>by have:=atPl_bd _ _ t ht; have:=HNp.out; omega) hacc
   have HP:=jH hp
   clear hp hu hru keep hacc hfb
   go_wp2_with fail
   refine HWr.mono ?_
   rintro e w5 ⟨ov5,rfl,hob⟩
   have HNx:Hid (OB w1 w2.heap.size (tw (n+1)++((Sr.parts x).take (k+1)).flatMap fun (p:Nat)=>wl (atPl (Sr.parts x) (p:Int))) ov5 w5):=by
    show OB _ _ _ _ _
    rw[xJ HP.out,List.flatMap_append,← List.append_assoc]
    simpa using hob.out
   clear HWr hob cq
   go_wp2_with fail
   go_roundg (n - (k+1))
   case measure=>omega
   case rel=>exact⟨k+1,ov5,by go_num,by omega,by omega,HNx⟩
  ·have hkz:¬ ((k:Int)<(n:Int)):=by omega
   have hk2:(Sr.parts x).take k=Sr.parts x:=List.take_of_length_le (by have:=HNp.out; omega)
   have hXr:wr.heap[W.heap.size]? = some (.cells #[.pointer q] 26 (0,0)):=(keep _ hWlt).trans HX1.out
   have cr:wr.cell? ⟨W.heap.size,0,none⟩=some (.pointer q):=by rw[jB hXr];rfl
   have hlow:Below W.heap.size W wr:=qL (F:=[w2.heap.size]) HB1.out (by intro b hb; simp at hb; omega) HS.out.fr
   have hself:=(HR.out wr hlow).self
   have HWr:=fun (o:Obj)=>write_calls (jH (HS.out.below ((Below.refl wr.heap.size wr).alloc (jR _) o))) HRws.out.srow (fun b e=>by have:=jP HRws.out.srow e; omega) (by have:=HX.out.1.1; simpa [atPl] using this) (fun t ht=>by have:=atPl_bd _ _ t ht; have:=HNp.out; omega) hacc
   have HE:Hid ((tw (n+1)++((Sr.parts x).take k).flatMap fun (p:Nat)=>wl (atPl (Sr.parts x) (p:Int)))++wl (atPl (Sr.parts x) x)=nbytes x):=by
    show _=_
    rw[hk2];unfold nbytes; rw[← HNp.out]
   clear hk2 hXr hlow keep hacc hfb
   go_wp2_with fail
   refine hself.mono ?_
   rintro e w5 ⟨rfl,o5,rfl⟩
   clear hself
   go_wp2_with fail
   refine (HWr o5).mono ?_
   rintro e w6 ⟨ov6,rfl,hob⟩
   have c6:w6.cell? ⟨w2.heap.size,0,none⟩=some ov6:=by rw[jB hob.out.box];rfl
   clear HWr cr
   go_wp2_with fail
   go_ret
   refine⟨ov6,rfl,?_,qL (F:=[w2.heap.size]) HB1.out (by intro b hb; simp at hb; omega) hob.out.fr,fun b e=>by have:=hob.out.own b e; omega⟩
   have h:=hob.out.row
   rw[HE.out] at h
   exact h
end
section
theorem info179:(Tryz.prog.info? 179).map (fun i=>(i.zero,i.size,i.bytes))=some (some (.agg #[.bool false,.pointer none]),2,16):=by kernel_rfl
theorem un175:Tryz.prog.underlying 175=some (.slice 179):=by kernel_rfl
def tcl (l:List (Bool×Option Addr)): List Value:=l.flatMap fun t=>[.bool t.1,.pointer t.2]
theorem tcl_append (a b:List (Bool×Option Addr)): tcl (a++b)=tcl a++tcl b:=by simp[tcl]
theorem tcl_get:∀ {l:List (Bool×Option Addr)} {k:Nat} {t:Bool×Option Addr},l[k]? = some t→(tcl l)[k*2]? = some (.bool t.1)∧(tcl l)[k*2+1]? = some (.pointer t.2)
 | [],_,_,h=>by simp at h
 | u::l,0,t,h=>by simp at h; subst h; simp[tcl]
 | u::l,k+1,t,h=>by
   have:=tcl_get (l:=l) (k:=k) (t:=t) (by simpa using h)
   have e:tcl (u::l)=[.bool u.1,.pointer u.2]++tcl l:=rfl
   rw[e,List.getElem?_append_right (by simp; omega),List.getElem?_append_right (by simp; omega)]
   have e1:(k+1)*2 - [Value.bool u.1,Value.pointer u.2].length=k*2:=by simp; omega
   have e2:(k+1)*2+1 - [Value.bool u.1,Value.pointer u.2].length=k*2+1:=by simp; omega
   rw[e1,e2];exact this
structure TmRow (w:World)(v:Value)(x:Int)(l:List (Bool×Option Addr)): Prop where
 row:w.ownsRow 0 179 2 v l.length (tcl l)
 nums:∀ (j:Nat) (u:Bool×Option Addr) (t:Tm),l[j]? = some u→(form x)[j]? = some t→u.1=t.1∧IsN w (.agg #[.pointer u.2]) (t.2:Int)
def TmQ (x:Int)(W:World)(e:Ending)(W':World): Prop:=∃ (v':Value) (l:List (Bool×Option Addr)),e=.returned v'∧Hid (TmRow W' v' x l)∧Hid (l.length=(form x).length)∧Hid (Below W.heap.size W W')
section
variable {ops:Array Oper} {o:Oper} {a:Act} {Q:Exit→Act→World→Prop} {K:Act→World→Prop} {W:World} {E:Prop}
theorem step_T2 (hgd:o.guard=none)(s x:Operand)(ho:o.op=.call { callee:=.builtin .append,args:=#[s,x],argTypes:=#[175,175] }) 
 (v:Value) (n:Nat) (l:List Value) (hs:a.eval s=v) (hown:W.ownsRow 0 179 2 v n l) (B:Nat) (t1 t2:Value) (h1:t1.oneCell'=true) (h2:t2.oneCell'=true) (hx:a.eval x=.slice (some ⟨B,0,none⟩) 1 1)
 (hB:W.heap[B]? = some (.cells #[t1,t2] 179 (0,0))) (hb:n+1≤1099511627776) (H:Nat) (hH:W.heap.size=H)
 (h:∀ g cap w',w'.ownsRow 0 179 2 (.slice (some ⟨g,0,none⟩) (n+1) cap) (n+1) (l++[t1,t2])→W.grownBy w' v.ownBlock→(v.ownBlock=some g∨g=H)→g<w'.heap.size→K (a.put o.dst (.slice (some ⟨g,0,none⟩) (n+1) cap)) w') :
 if Region.wanted o (yielded ops a.tmps)=true then Oper.wp Tryz.prog o a W K Q else E:=by
 obtain⟨i,hi,hz0,hz1,hz2⟩:=info_parts info179
 refine step_append_lies W hgd s x 175 ho 0 179 i _ 2 16 un175 hi hz0 hz1 hz2 rfl (by decide) v n _ hs hown ⟨B,0,none⟩ 1 1 [t1,t2] hx rfl (fun j u hu=>World.news_of_block hB j u hu) (by simp[h1,h2]) (by omega) (by simp only[maxLen];omega) (by omega) (Nat.zero_le _) H hH ?_
 intro g cap w' k1 k2 k3 k4
 exact h g cap w' k1 k2 k3 k4
end
variable {w5 w7:World} {ov:Value} {x:Int}
theorem tm_held {wr:World}{n b1 b2:Nat}{l:List Value}{c1 c2:Array Value}{o:Obj}{S:World→Prop}(hr:wr.ownsRow 0 179 2 ov n l)(hS:∀ w',w'.heap[b1]? = some (.cells c1 26 (0,0))→w'.heap[b2]? = some (.cells c2 154 (0,0))→S w') 
 (h1:w5.heap[b1]? = some (.cells c1 26 (0,0))) (h2:w5.heap[b2]? = some (.cells c2 154 (0,0))) (hg:(w5.alloc o).grownBy w7 ov.ownBlock) (hr5:w5.ownsRow 0 179 2 ov n l):S w7:=by
 have _:=hr
 have key:∀ {b:Nat} {c:Array Value} {T:TypeId},w5.heap[b]? = some (.cells c T (0,0))→T≠179→w7.heap[b]? = some (.cells c T (0,0)):=fun {b c T} h hT=>by
  have hlt:=(jA h).1
  rw[hg.block b (by simp; omega) (fun e=>by
   obtain⟨c',hc'⟩:=jO hr5 e.symm
   exact jI h hc' hT rfl),jE _ _ hlt]
  exact h
 exact hS w7 (key h1 (by decide)) (key h2 (by decide))
theorem tm_below {w1:World}{o:Obj}(h:Below w1.heap.size w1 w5)(ho:∀ b,ov.ownBlock=some b→w1.heap.size≤b)(hg:(w5.alloc o).grownBy w7 ov.ownBlock): Below w1.heap.size w1 w7:=by
 have hs:=h.size
 refine⟨(show w7.os=w5.os from hg.os).trans h.os,(show w7.tape=w5.tape from hg.tape).trans h.tape,(show w7.output=w5.output from hg.output).trans h.output,by have:=hg.size; simp at this; omega,fun b hb=>?_⟩
 rw[hg.block b (by simp; omega) (fun e=>by have:=ho b e.symm; omega),jE _ _ (by omega)]
 exact h.block b hb
theorem tm_next {wr:World}{l:List (Bool×Option Addr)}{k g cap:Nat}{o:Obj}{sx:Bool}{e:Nat}{r:Option Addr}(hr:TmRow wr ov x l)(hlk:l.length=k)(ht:(form x)[k]? = some (sx,e))(hb:Below wr.heap.size wr w5)(hi:IsN w5 (.agg #[.pointer r]) (e:Int)) 
 (hI:w7.ownsRow 0 179 2 (.slice (some ⟨g,0,none⟩) (l.length+1) cap) (l.length+1) (tcl l++[.bool sx,.pointer r])) (hg:(w5.alloc o).grownBy w7 ov.ownBlock) (hr5:w5.ownsRow 0 179 2 ov l.length (tcl l)) :
 TmRow w7 (.slice (some ⟨g,0,none⟩) (l.length+1) cap) x (l++[(sx,r)]):=by
 have key:∀ {v:Value} {z:Int},IsN w5 v z→IsN w7 v z:=fun {v z} h=>h.kept fun b c T hb2 hT=>by
  have hlt:=(jA hb2).1
  rw[hg.block b (by simp; omega) (fun e=>by
   obtain⟨c',hc'⟩:=jO hr5 e.symm
   exact jI hb2 hc' (by rintro rfl; rcases hT with h | h | h <;>cases h) rfl),jE _ _ hlt]
 refine⟨?_,fun j u t hj ht'=>?_⟩
 ·rw[List.length_append,tcl_append];exact hI
 ·by_cases h:j<l.length
  ·rw[List.getElem?_append_left h] at hj
   obtain⟨h1,h2⟩:=hr.nums j u t hj ht'
   exact⟨h1,key (h2.below hb)⟩
  ·have hjl:j=l.length:=by
    have:=(jL hj).1
    simp at this; omega
   subst hjl
   rw[hlk,ht] at ht'
   cases ht'
   simp at hj
   subst hj
   exact⟨rfl,key hi⟩
theorem Terms_calls {W:World}{v:Value}(hx:IsN W v x): Calls Tryz.prog 141 #[v] W (TmQ x W):=by
 have hal:=hx.1
 have hx0:=hx
 obtain⟨_,⟨rfl,rfl⟩ | ⟨hne,nb,pv,sv,fl,rfl,hnb⟩⟩:=hx
 ·have hs:=self_none
  go_enter Tryz.func141,Tryz.ntmps141
  go_wp2_with fail
  refine (hs _).mono ?_
  rintro e w1 ⟨rfl,o,rfl⟩
  clear hs
  go_wp2_with fail
  refine wp_loop_rounds 1 ?_
  rw[rounds_succ]
  go_wp2_with fail
  go_ret
  exact⟨_,[],rfl,⟨⟨rfl,.inl ⟨rfl,rfl⟩⟩,fun j u t h=>by simp at h⟩,by show _=_; simp[j5],((Below.refl _ _).alloc (jR _) _).alloc (by simp) _⟩
 ·have HNB:=jH hnb
  have HAl:=jH hal
  obtain⟨sa,sc,rfl,_,_⟩:=hnb.self.shape
  obtain⟨n,hn⟩:∃ n,n=(atPl (Sr.parts x) x).length:=⟨_,rfl⟩
  have HNf:Hid (n=(form x).length):=by show _=_; rw[hn];simp[atPl]
  have hnb3:n≤300:=by have:=HAl.out.1; have:=HNf.out; omega
  rw[← hn] at HNB
  have hself:=self_some (HNB.out.below ((Below.refl W.heap.size W).alloc (jR _) (.cells #[.pointer (some ⟨nb,0,none⟩)] 26)))
  have HSl:Hid (TRow W (.slice sa n sc) (atPl (Sr.parts x) x)):=by rw[hn];exact hnb.self
  clear hn hnb hal hx0
  go_enter Tryz.func141,Tryz.ntmps141
  go_wp2_with fail
  refine hself.mono ?_
  rintro e w1 ⟨rfl,o,hw1⟩
  have HB1:Hid (Below W.heap.size W w1):=by show Below _ _ _; rw[hw1];exact ((Below.refl _ _).alloc (jR _) _).alloc (by simp) _
  have HX1:Hid (w1.heap[W.heap.size]? = some (.cells #[.pointer (some ⟨nb,0,none⟩)] 26 (0,0))):=by show _=_; rw[hw1,jE _ _ (by simp)];exact jD W _
  have R0:Hid (TmRow w1 (.slice none 0 0) x []):=⟨⟨rfl,.inl ⟨rfl,rfl⟩⟩,fun j u t h=>by simp at h⟩
  clear hself hw1
  go_wp2_with fail
  go_loopg [3,9] n (fun g1 vo vi wr=>∃ (k:Nat) (l:List (Bool×Option Addr)) (ov:Value),vo=ov∧vi=.int .i64 k∧k≤n∧n - k≤g1∧l.length=k∧Hid (TmRow wr ov x l)∧Hid (Below w1.heap.size w1 wr)∧Hid (∀ b,ov.ownBlock=some b→w1.heap.size≤b))
  case atStart=>exact⟨0,[],_,rfl,rfl,by omega,by omega,rfl,R0,Below.refl _ _,fun b h=>by cases h⟩
  case round =>
   clear R0
   obtain⟨k,l,ov,hov,rfl,hkn,hg,hlk,HR,HB,HO⟩:=hrel
   subst hov
   by_cases hk:k<n
   ·have hkz:(k:Int)<(n:Int):=by omega
    have hk0:(0:Int)≤(k:Int):=Int.natCast_nonneg k
    have hkw:IntKind.i64.wrap ((k:Int)+1)=(k:Int)+1:=IntWalk.i64_in _ (by omega)
    have HB2:=jH (Below.trans' HB1.out HB.out)
    obtain⟨t,ht⟩:∃ t,(form x)[k]? = some t:=⟨_,jG (by rw[← HNf.out];exact hk)⟩
    obtain⟨sx,e⟩:=t
    have hep:e∈Sr.parts x:=mem_parts.2 (.here (mem_exps (jM ht)))
    have hap:(atPl (Sr.parts x) x)[k]? = some (sx,(Sr.parts x).idxOf e):=by unfold atPl; rw[List.getElem?_map,ht];rfl
    obtain⟨_,_,ea,_,sa'⟩:=TRow.shape (jK HSl.out HB2.out)
    obtain⟨ga,hga,cx0,cx1⟩:=sa' k _ hap
    obtain⟨q1,q2,q3⟩:=Value.slice.inj ea
    subst hga
    subst q1
    clear q2 q3 ea sa'
    dsimp only at cx0 cx1
    have HPart:=part_calls (W:=(wr.alloc (.cells #[.bool sx,.int .i64 ((Sr.parts x).idxOf e:Nat)] 154)).drew) (HNB.out.below ((HB2.out.alloc HB2.out.size _).drew)) HAl.out (qY hep)
    obtain⟨a,ha⟩:∃ a,a=(Sr.parts x).idxOf e:=⟨_,rfl⟩
    rw[← ha] at cx1 HPart
    have hgl:ga<wr.heap.size:=jg cx0
    have hgs:ga≠wr.heap.size:=by omega
    have HT:=jH ht
    have hz1:W.heap.size<wr.heap.size:=by
     have h1:=(jA HX1.out).1
     have:=HB.out.size; omega
    have e26:(wr.alloc (.cells #[.bool sx,.int .i64 (a:Nat)] 154)).drew.heap[W.heap.size]? = some (.cells #[.pointer (some ⟨nb,0,none⟩)] 26 (0,0)):=(jE _ _ hz1).trans (Below.here HB.out HX1.out)
    have e154:(wr.alloc (.cells #[.bool sx,.int .i64 (a:Nat)] 154)).drew.heap[wr.heap.size]? = some (.cells #[.bool sx,.int .i64 (a:Nat)] 154 (0,0)):=jD wr _
    have E26:=jH e26
    have E154:=jH e154
    have HSS:Hid (∀ w':World,w'.heap[W.heap.size]? = some (.cells #[.pointer (some ⟨nb,0,none⟩)] 26 (0,0))→w'.heap[wr.heap.size]? = some (.cells #[.bool sx,.int .i64 (a:Nat)] 154 (0,0))→w'.cell? ⟨W.heap.size,0,none⟩=some (.pointer (some ⟨nb,0,none⟩))∧w'.cell? ⟨wr.heap.size,0,none⟩=some (.bool sx)∧w'.cell? ⟨wr.heap.size,1,none⟩=some (.int .i64 (a:Nat))):=fun w' h1 h2 =>
     ⟨by rw[jB h1];rfl,by rw[jB h2];rfl,by rw[jB h2];rfl⟩
    have hS0:=HSS.out _ e26 e154
    have hlb:l.length+1≤1099511627776:=by omega
    clear hep hap ha ht e26 e154
    go_wp2_with fail
    clear cx0 cx1
    go_region_held3 (fun w'=>w'.cell? ⟨W.heap.size,0,none⟩=some (.pointer (some ⟨nb,0,none⟩))∧w'.cell? ⟨wr.heap.size,0,none⟩=some (.bool sx)∧w'.cell? ⟨wr.heap.size,1,none⟩=some (.int .i64 (a:Nat)))
     (first | exact hS0 | exact HS1.out | exact HS2.out _ | exact HS3.out)
     (first
       | (go_at_call 157
          refine HPart.mono ?_
          rintro z w5 ⟨r5,rfl,hi5,hb5⟩
          have HB5:=jH hb5.out
          have HS1:=jH (HSS.out w5 (Below.here hb5.out E26.out) (Below.here hb5.out E154.out))
          have HS2:Hid (∀ o,(w5.alloc o).cell? ⟨W.heap.size,0,none⟩=some (.pointer (some ⟨nb,0,none⟩))∧(w5.alloc o).cell? ⟨wr.heap.size,0,none⟩=some (.bool sx)∧(w5.alloc o).cell? ⟨wr.heap.size,1,none⟩=some (.int .i64 (a:Nat))):=fun o =>
           HSS.out _ ((jE _ _ (jA (Below.here hb5.out E26.out)).1).trans (Below.here hb5.out E26.out)) ((jE _ _ (jA (Below.here hb5.out E154.out)).1).trans (Below.here hb5.out E154.out))
          have HRow5:=jH (jK (jK HR.out.row (((Below.refl _ _).alloc (jR _) (.cells #[.bool sx,.int .i64 (a:Nat)] 154)).drew)) hb5.out)
          clear hb5)
       | (refine step_T2 rfl (.tmp 13) (.tmp 22) rfl u3 l.length (tcl l) rfl (World.ownsRow.alloc HRow5.out _) _ (.bool sx) (.pointer r5) rfl rfl rfl (jD _ _) hlb _ rfl ?_; intro g cap w7 I7 G7 A7 L7
          have HI7:=jH I7
          have HG7:=jH G7
          have HA7:Hid (u3.ownBlock=some g∨g=w5.heap.size+1):=by show _∨_; simpa using A7
          have HS3:=jH (tm_held HR.out.row HSS.out (Below.here HB5.out E26.out) (Below.here HB5.out E154.out) G7 HRow5.out)
          clear I7 G7 A7 L7))
    have hb5':Below wr.heap.size wr w5:=Below.trans' (((Below.refl _ _).alloc (jR _) (.cells #[.bool sx,.int .i64 (a:Nat)] 154)).drew) HB5.out
    have HNx:=jH (tm_next HR.out hlk HT.out hb5' hi5.out HI7.out HG7.out HRow5.out)
    have HBx:Hid (Below w1.heap.size w1 w7):=tm_below (Below.trans' HB.out hb5') HO.out HG7.out
    have HOx:Hid (∀ b,(Value.slice (some ⟨g,0,none⟩) (k+1) cap).ownBlock=some b→w1.heap.size≤b):=fun b e=>by
     have e':b=g:=by simpa [Value.ownBlock] using e.symm
     subst e'
     rcases HA7.out with h | h
     ·exact HO.out b h
     ·have:=hb5'.size; have:=HB.out.size; omega
    rw[hlk] at HNx
    have hlk2:(l++[(sx,r5)]).length=k+1:=by simp[hlk]
    clear HS1 HS2 HS3 HSS hS0 HPart HI7 HG7 HA7 HRow5 HB5 hb5'
    go_wp2_with fail
    go_roundg (n - (k+1))
    case measure=>omega
    case rel=>exact⟨k+1,l++[(sx,r5)],_,rfl,by go_num,by omega,by omega,hlk2,HNx,HBx,HOx⟩
   ·have hkz:¬ ((k:Int)<(n:Int)):=by omega
    go_wp2_with fail
    go_ret
    exact⟨_,l,rfl,HR,by show _=_; have:=HNf.out; omega,Below.trans' HB1.out HB.out⟩
def lowE (x:Int): Nat:=(exps x).getLastD 0
theorem Low_calls {W:World}{v:Value}(hx:IsN W v x)(hne:x≠0): Calls Tryz.prog 124 #[v] W fun e W'=>∃ q,e=.returned (.tuple #[.agg #[.pointer q],.int .i64 0])∧Hid (IsN W' (.agg #[.pointer q]) (lowE x:Int))∧Hid (Below W.heap.size W W'):=by
 obtain⟨qx,rfl⟩:=hx.ptr
 have HX:=jH hx
 obtain⟨W0,hW0⟩:∃ W0,W0=(W.alloc (.cells #[.pointer qx] 26)).alloc (.cells #[.pointer none] 26):=⟨_,rfl⟩
 have HW0:=jH hW0
 have HB0:Hid (Below W.heap.size W W0):=by show Below _ _ _; rw[hW0];exact ((Below.refl _ _).alloc (jR _) _).alloc (by simp) _
 have X1:Hid (W0.heap[W.heap.size+1]? = some (.cells #[.pointer none] 26 (0,0))):=by show _=_; rw[hW0];exact j7 (by simp)
 have HT:=Terms_calls (HX.out.below HB0.out)
 have HE:Hid (form x≠[]):=fun h=>hne (form_nil h)
 have HAl:Hid ((form x).length≤300):=hx.1.1
 clear hx hne hW0
 go_enter Tryz.func124,Tryz.ntmps124
 go_wp2_with fail
 rw[show (W.alloc (.cells #[.pointer qx] 26)).alloc (.cells #[.pointer none] 26)=W0 from HW0.out.symm]
 refine HT.mono ?_
 rintro e w1 ⟨v1,l,rfl,hr1,hl1,hb1⟩
 clear HT
 have hpos:0<l.length:=by rw[hl1.out];exact List.length_pos_iff.2 HE.out
 obtain⟨g,cap,cur,hv,h4,h5,h6,h7,h8⟩:∃ g cap cur,v1=.slice (some ⟨g,0,none⟩) l.length cap∧w1.heap[g]? = some (.cells cur 179 (0,0))∧l.length≤cap∧cap≤maxLen∧cur.size=cap*2∧cur.toList.take (l.length*2)=tcl l:=by
  obtain⟨_,⟨_,h2⟩ | ⟨g,cap,cur,hv,_,h4,h5,h6,h7,h8⟩⟩:=hr1.out.row
  ·omega
  ·exact⟨g,cap,cur,hv,h4,h5,h6,h7,h8⟩
 subst hv
 obtain⟨k,hk⟩:∃ k,l.length=k+1:=⟨l.length - 1,by omega⟩
 obtain⟨u,hu⟩:∃ u,l[k]? = some u:=⟨_,jG (by omega)⟩
 obtain⟨t,ht⟩:∃ t,(form x)[k]? = some t:=⟨_,jG (by rw[← hl1.out];omega)⟩
 obtain⟨_,hi⟩:=hr1.out.nums k u t hu ht
 have hlow:t.2=lowE x:=by
  unfold lowE
  have h1:(exps x)[k]? = some t.2:=by unfold exps; rw[List.getElem?_map,ht];rfl
  have h2:(exps x).length=k+1:=by rw[js,← hl1.out,hk]
  rw[List.getLastD_eq_getLast?,List.getLast?_eq_getElem?,h2,Nat.add_sub_cancel,h1];rfl
 rw[hlow] at hi
 have HI:=jH hi
 obtain⟨_,d1⟩:=tcl_get hu
 rw[← h8,List.getElem?_take_of_lt (by omega),Array.getElem?_toList,← jB h4] at d1
 have hkl:k+1≤300:=by rw[← hk,hl1.out];exact HAl.out
 rw[hk]
 have hz:((((k+1:Nat)):Int)==0)=false:=by simp; omega
 have hw:IntKind.i64.wrap (((k+1:Nat):Int) - 1)=(k:Int):=by rw[IntKind.wrap_i64];omega
 have k0:(0:Int)≤(k:Int):=Int.natCast_nonneg k
 have kz:(k:Int)<((k+1:Nat):Int):=by omega
 have HX1:=jH (Below.here hb1.out X1.out)
 have c1:w1.cell? ⟨W.heap.size+1,0,none⟩=some (.pointer none):=by rw[jB HX1.out];rfl
 have f1:w1.frozen? ⟨W.heap.size+1,0,none⟩=false:=jF HX1.out 0
 obtain⟨us,ur⟩:=u
 dsimp only at d1 HI
 clear hr1 hl1 hpos h4 h5 h6 h7 h8 hk hu ht hi hlow
 go_wp2_with fail
 refine bodyPost_ret (v:=.tuple #[.agg #[.pointer ur],.int .i64 0]) (by simp[results,Tryz.results124,go_sem,c1]) rfl ?_
 exact⟨ur,rfl,HI.out.setCell HX1.out (by decide) _,(Below.trans' HB0.out hb1.out).setCell (by show W.heap.size≤W.heap.size+1; omega) _⟩
end
end Sr
