/- Texts of this claim, joined: GiveW, Num, GiveC, Placed. -/
import Derived.Test.YtabafgphmbdpgaaGreatDoorTe1
import Derived.Test.YtabafgphmbdpgaaGreatDoorTe3
import Derived.Test.YtabafgphmbdpgaaGreatDoorTe4
import Derived.Test.YtabafgphmbdpgaaGreatDoorTe13
import Derived.Lib.Hide
set_option maxHeartbeats 8000000
set_option maxRecDepth 100000
namespace Sr
open Go Go.Proofs Go.RowKit Go.Maps Go.WideMaps
structure GB (C:List Nat)(w1:World)(p:Nat)(F:List Nat)(D:WD)(vs:List Int)(gk:List Nat)(m b6 b8 b2 b7 b9 mh:Nat): Prop where
 wo:WO C w1 p F D vs gk m
 bh:w1.heap[b6]? = some (.cells #[.map (some mh)] 122 (0,0))
 bw:w1.heap[b2]? = some (.cells #[.pointer (some ⟨p,0,none⟩)] 107 (0,0))
 bk:w1.heap[b9]? = some (.cells #[.func (.func 95) #[] #[.pointer (some ⟨b6,0,none⟩),.pointer (some ⟨b8,0,none⟩),.pointer (some ⟨b2,0,none⟩),.pointer (some ⟨b7,0,none⟩),.pointer (some ⟨b9,0,none⟩)]] 126 (0,0))
 n7:b7∉F
 n8:b8∉F
 nm:mh∉F
 l7:b7<w1.heap.size
 l8:b8<w1.heap.size
 lm:mh<w1.heap.size
 t7:∃ c,w1.heap[b7]? = some (.cells c 80 (0,0))
 t8:∃ c,w1.heap[b8]? = some (.cells c 4 (0,0))
 tm:∃ es cl,w1.heap[mh]? = some (.map es cl)
def hmap (vs:List Int)(ps:List Nat)(hh:Nat→Nat)(f:Value→Option Value): Prop :=
 ∀ k v,f k=some v↔∃ e∈ps,k=.int .i64 (vs.idxOf (e:Int):Nat)∧v=.int .i64 (hh e:Nat)
structure GS (w1:World)(vs:List Int)(b8 b7 mh:Nat)(ps:List Nat)(hh:Nat→Nat)(ok:Bool)(plv:Value)(wr:World): Prop where
 inv:HInv vs ps hh ok
 fr:Fr [b7,b8,mh] w1 wr
 bo:wr.heap[b8]? = some (.cells #[.bool ok] 4 (0,0))
 bp:wr.heap[b7]? = some (.cells #[plv] 80 (0,0))
 row:IRow wr plv (ps.map fun (e:Nat)=>vs.idxOf (e:Int))
 own:∀ b,plv.ownBlock=some b→w1.heap.size≤b
 map:∃ f,MapF Tryz.prog 3 wr mh f∧hmap vs ps hh f
def GO (b7 b8 mh:Nat)(plv:Value): List Nat:=b7::b8::mh::plv.ownBlock.toList
theorem mem_GO {b7 b8 mh b:Nat}{plv:Value}: b∈GO b7 b8 mh plv↔b=b7∨b=b8∨b=mh∨plv.ownBlock=some b:=by simp[GO]
section
variable {C:List Nat} {w1 wr:World} {p:Nat} {F:List Nat} {D:WD} {vs:List Int} {gk:List Nat} {m b6 b8 b2 b7 b9 mh:Nat} {ps:List Nat} {hh:Nat→Nat} {ok:Bool} {plv:Value}
theorem GB.wo' (B:GB C w1 p F D vs gk m b6 b8 b2 b7 b9 mh)(hf:Fr [b7,b8,mh] w1 wr): WO C wr p F D vs gk m :=
 B.wo.kept fun b hb=>hf.block b (B.wo.blt b hb) (by
  intro h; simp at h
  rcases h with rfl | rfl | rfl
  ·exact B.n7 hb
  ·exact B.n8 hb
  ·exact B.nm hb)
theorem GB.keep (B:GB C w1 p F D vs gk m b6 b8 b2 b7 b9 mh)(hf:Fr [b7,b8,mh] w1 wr){b:Nat}{c:Array Value}{T:TypeId}{z:Nat×Nat}(hb:w1.heap[b]? = some (.cells c T z))(h80:T≠80)(h4:T≠4): wr.heap[b]? = some (.cells c T z):=by
 rw[hf.block b (jA hb).1 ?_];exact hb
 intro h; simp at h
 rcases h with rfl | rfl | rfl
 ·obtain⟨c',h'⟩:=B.t7; rw[hb] at h'; cases h'; exact h80 rfl
 ·obtain⟨c',h'⟩:=B.t8; rw[hb] at h'; cases h'; exact h4 rfl
 ·obtain⟨es,cl,h'⟩:=B.tm; rw[hb] at h'; cases h'
theorem GB.trow (B:GB C w1 p F D vs gk m b6 b8 b2 b7 b9 mh)(hf:Fr [b7,b8,mh] w1 wr){v:Value}{l:List PT}(h:TRow w1 v l): TRow wr v l :=
 jJ h fun b e=>by
  obtain⟨c,hc⟩:=jO h e
  rw[B.keep hf hc (by decide) (by decide),hc]
theorem GS.below (S:GS w1 vs b8 b7 mh ps hh ok plv wr){w':World}(hb:Below wr.heap.size wr w'): GS w1 vs b8 b7 mh ps hh ok plv w' where
 inv:=S.inv
 fr:=⟨hb.os.trans S.fr.os,hb.tape.trans S.fr.tape,hb.output.trans S.fr.output,Nat.le_trans S.fr.size hb.size,fun b h1 h2=>(hb.block b (Nat.lt_of_lt_of_le h1 S.fr.size)).trans (S.fr.block b h1 h2)⟩
 bo:=(hb.block b8 (jA S.bo).1).trans S.bo
 bp:=(hb.block b7 (jA S.bp).1).trans S.bp
 row:=jK S.row hb
 own:=S.own
 map:=by obtain⟨f,h1,h2⟩:=S.map; exact⟨f,h1.kept (hb.block _ h1.lt),h2⟩
theorem GS.look (S:GS w1 vs b8 b7 mh ps hh ok plv wr){e:Nat}(hv:vs.length≤2147483648)(he:(e:Int)∈vs):
 (e∈ps∧∀ w',w'.heap[mh]? = wr.heap[mh]?→(Instr.lookup 122 (.map (some mh)) (.int .i64 (vs.idxOf (e:Int):Nat)) true).run Tryz.prog w'=.ok (.tuple #[.int .i64 (hh e:Nat),.bool true]) w') ∨
 (e∉ps∧∀ w',w'.heap[mh]? = wr.heap[mh]?→(Instr.lookup 122 (.map (some mh)) (.int .i64 (vs.idxOf (e:Int):Nat)) true).run Tryz.prog w'=.ok (.tuple #[.int .i64 0,.bool false]) w'):=by
 obtain⟨f,h1,h2⟩:=S.map
 have hl:keyOf Tryz.prog 3 (.int .i64 (vs.idxOf (e:Int):Nat))=some (.int .i64 (vs.idxOf (e:Int):Nat)):=keyInt (wfNat (by have:=zR he; omega))
 by_cases hm:e∈ps
 ·refine .inl ⟨hm,fun w' hw=>?_⟩
  have hf:f (.int .i64 (vs.idxOf (e:Int):Nat))=some (.int .i64 (hh e:Nat)):=(h2 _ _).2 ⟨e,hm,rfl,rfl⟩
  have:=(h1.kept hw).look true law3 Tryz.underlying122 (zero3 w') hl
  simpa [hf] using this
 ·refine .inr ⟨hm,fun w' hw=>?_⟩
  have hf:f (.int .i64 (vs.idxOf (e:Int):Nat))=none:=by
   cases hfx:f (.int .i64 (vs.idxOf (e:Int):Nat)) with
   | none=>rfl
   | some v =>
     obtain⟨e',h3,h4,_⟩:=(h2 _ _).1 hfx
     have h5:vs.idxOf (e:Int)=vs.idxOf (e':Int):=by
      have:=Value.int.inj h4; omega
     have h6:=jU he
     rw[h5,jU (S.inv.mem e' h3)] at h6
     have h7:(e':Int)=e:=Option.some.inj h6
     have:e'=e:=by omega
     exact absurd (this▸h3) hm
  have:=(h1.kept hw).look true law3 Tryz.underlying122 (zero3 w') hl
  simpa [hf] using this
theorem HInv.weak {ok':Bool}(h:HInv vs ps hh ok)(ho:ok'=true→ok=true): HInv vs ps hh ok':=⟨h.nodup,h.mem,h.le,fun h'=>h.good (ho h')⟩
theorem GS.setOk (B:GB C w1 p F D vs gk m b6 b8 b2 b7 b9 mh)(S:GS w1 vs b8 b7 mh ps hh ok plv wr)(ok':Bool)(ho:ok'=true→ok=true): GS w1 vs b8 b7 mh ps hh ok' plv (wr.setCell ⟨b8,0,none⟩ (.bool ok')):=by
 have n78:b7≠b8:=jI S.bp S.bo (by decide)
 have hk:∀ b,b≠b8→(wr.setCell ⟨b8,0,none⟩ (.bool ok')).heap[b]? = wr.heap[b]?:=fun b hb=>jS _ _ _ _ hb
 have _:=B
 refine⟨S.inv.weak ho,⟨S.fr.os,S.fr.tape,S.fr.output,by have:=S.fr.size; simpa using this,fun b h1 h2=>?_⟩,heap_setCell_same wr b8 0 _ 4 _ S.bo,(hk _ n78).trans S.bp,?_,S.own,?_⟩
 ·rw[hk b (by rintro rfl; simp at h2)];exact S.fr.block b h1 h2
 ·exact jJ S.row fun b e=>hk b (by
   obtain⟨c,hc⟩:=jO S.row e
   exact jI hc S.bo (by decide))
 ·obtain⟨f,h1,h2⟩:=S.map
  exact⟨f,h1.kept (hk _ (qD ⟨_,_,_,S.bo⟩ h1).symm),h2⟩
theorem GS.pushed (_B:GB C w1 p F D vs gk m b6 b8 b2 b7 b9 mh)(S:GS w1 vs b8 b7 mh ps hh ok plv wr){e q:Nat}(hv:vs.length≤2147483648)(he:(e:Int)∈vs)(hi:HInv vs (ps++[e]) (upH hh e q) ok)(hn:e∉ps):
 ∃ W4,(Instr.mapUpdate 122 (.map (some mh)) (.int .i64 (vs.idxOf (e:Int):Nat)) (.int .i64 (q:Nat))).run Tryz.prog wr=.ok () W4∧W4.heap.size=wr.heap.size∧(∀ (b:Nat) (c:Array Value) (T:TypeId) (z:Nat×Nat),wr.heap[b]? = some (Obj.cells c T z)→W4.heap[b]? = some (Obj.cells c T z)) ∧
  IRow W4 plv (ps.map fun (e:Nat)=>vs.idxOf (e:Int)) ∧
  ∀ (w3:World) (g n1 cap:Nat) (o:Obj),IRow w3 (.slice (some ⟨g,0,none⟩) n1 cap) ((ps.map fun (e:Nat)=>vs.idxOf (e:Int))++[vs.idxOf (e:Int)])→(W4.alloc o).grownBy w3 plv.ownBlock→(plv.ownBlock=some g∨g=W4.heap.size+1) →
   GS w1 vs b8 b7 mh (ps++[e]) (upH hh e q) ok (.slice (some ⟨g,0,none⟩) n1 cap) (w3.setCell ⟨b7,0,none⟩ (.slice (some ⟨g,0,none⟩) n1 cap)) ∧
   FE (GO b7 b8 mh plv) wr (GO b7 b8 mh (.slice (some ⟨g,0,none⟩) n1 cap)) (w3.setCell ⟨b7,0,none⟩ (.slice (some ⟨g,0,none⟩) n1 cap)) ∧
   w3.cell? ⟨b7,0,none⟩=some plv∧w3.frozen? ⟨b7,0,none⟩=false:=by
 obtain⟨f,f1,f2⟩:=S.map
 have hl:keyOf Tryz.prog 3 (.int .i64 (vs.idxOf (e:Int):Nat))=some (.int .i64 (vs.idxOf (e:Int):Nat)):=keyInt (wfNat (by have:=zR he; omega))
 obtain⟨W4,hrun,M4,s4,G4⟩:=f1.store law3 Tryz.underlying122 (v:=.int .i64 (q:Nat)) hl
 have k4:∀ b,b<wr.heap.size→b≠mh→W4.heap[b]? = wr.heap[b]?:=fun b hb hne=>G4.block b hb (by intro e; cases e; exact hne rfl)
 have cellk:∀ (b:Nat) (c:Array Value) (T:TypeId) (z:Nat×Nat),wr.heap[b]? = some (Obj.cells c T z)→W4.heap[b]? = some (Obj.cells c T z):=fun b c T z hb=>by
  rw[k4 b (jA hb).1 (qD ⟨_,_,_,hb⟩ f1)];exact hb
 have row4:IRow W4 plv (ps.map fun (e:Nat)=>vs.idxOf (e:Int)):=jJ S.row fun b e'=>by
  obtain⟨c,hc⟩:=jO S.row e'
  rw[cellk _ _ _ _ hc,hc]
 refine⟨W4,hrun,s4,cellk,row4,fun w3 g n1 cap o hI hg hat=>?_⟩
 have b4o:=cellk _ _ _ _ S.bo
 have b4p:=cellk _ _ _ _ S.bp
 have hsz:=S.fr.size
 have hne7:plv.ownBlock≠some b7:=fun e'=>by
  obtain⟨c,hc⟩:=jO S.row e'
  exact jI hc S.bp (by decide) rfl
 have hne8:plv.ownBlock≠some b8:=fun e'=>by
  obtain⟨c,hc⟩:=jO S.row e'
  exact jI hc S.bo (by decide) rfl
 have hnem:plv.ownBlock≠some mh:=fun e'=>by
  obtain⟨c,hc⟩:=jO S.row e'
  exact qD ⟨_,_,_,hc⟩ f1 rfl
 have n78:b8≠b7:=jI S.bo S.bp (by decide)
 have lo:b8<W4.heap.size:=(jA b4o).1
 have lp:b7<W4.heap.size:=(jA b4p).1
 have keep:∀ b,b<W4.heap.size→plv.ownBlock≠some b→b≠b7→(w3.setCell ⟨b7,0,none⟩ (.slice (some ⟨g,0,none⟩) n1 cap)).heap[b]? = W4.heap[b]?:=fun b h1 h2 h3 =>
  (jS _ _ _ _ h3).trans ((hg.block b (by simp; omega) (fun e=>h2 e.symm)).trans (jE _ _ h1))
 have h7:w3.heap[b7]? = some (.cells #[plv] 80 (0,0)):=by
  rw[hg.block b7 (by simp; omega) (fun e=>hne7 e.symm),jE _ _ lp];exact b4p
 have hfe:FE (GO b7 b8 mh plv) wr (GO b7 b8 mh (.slice (some ⟨g,0,none⟩) n1 cap)) (w3.setCell ⟨b7,0,none⟩ (.slice (some ⟨g,0,none⟩) n1 cap)):=by
  refine⟨⟨(show w3.os=W4.os from hg.os).trans G4.os,(show w3.tape=W4.tape from hg.tape).trans G4.tape,(show w3.output=W4.output from hg.output).trans G4.output,by have:=hg.size; simp at this ⊢;omega,fun b h1 h2=>?_⟩,fun b hb=>?_⟩
  ·rw[mem_GO] at h2
   rw[keep b (by omega) (fun e'=>h2 (.inr (.inr (.inr e')))) (fun e'=>h2 (.inl e')),k4 b h1 (fun e'=>h2 (.inr (.inr (.inl e'))))]
  ·rw[mem_GO] at hb ⊢
   rcases hb with hb | hb | hb | hb
   ·exact .inl (.inl hb)
   ·exact .inl (.inr (.inl hb))
   ·exact .inl (.inr (.inr (.inl hb)))
   ·have hb':b=g:=by simpa [Value.ownBlock] using hb.symm
    subst hb'
    rcases hat with h | h
    ·exact .inl (.inr (.inr (.inr h)))
    ·exact .inr (by omega)
 refine⟨?_,hfe,by rw[jB h7];rfl,jF h7 0⟩
 refine⟨hi,?_,(keep _ lo hne8 n78).trans b4o,heap_setCell_same w3 b7 0 _ 80 _ h7,?_,?_,?_⟩
 ·refine⟨(show w3.os=W4.os from hg.os).trans (G4.os.trans S.fr.os),(show w3.tape=W4.tape from hg.tape).trans (G4.tape.trans S.fr.tape),(show w3.output=W4.output from hg.output).trans (G4.output.trans S.fr.output),by have:=hg.size; simp at this ⊢;omega,fun b h1 h2=>?_⟩
  have h2':b≠b7∧b≠b8∧b≠mh:=by simpa using h2
  rw[keep b (by omega) (fun e'=>by have:=S.own b e'; omega) h2'.1,k4 b (by omega) h2'.2.2]
  exact S.fr.block b h1 h2
 ·rw[List.map_append]
  exact jJ hI fun b hb=>jS _ _ _ _ (by
   show b≠b7
   intro e5
   obtain⟨c,hc⟩:=jO hI hb
   exact jI hc h7 (by decide) e5)
 ·intro b hb
  have hb':b=g:=by simpa [Value.ownBlock] using hb.symm
  subst hb'
  rcases hat with h | h
  ·exact S.own b h
  ·omega
 ·refine⟨_,M4.kept (keep mh (by have:=f1.lt; omega) hnem (qD ⟨_,_,_,S.bp⟩ f1).symm),fun k v=>?_⟩
  unfold updF
  by_cases hk:k=.int .i64 (vs.idxOf (e:Int):Nat)
  ·rw[if_pos hk]
   constructor
   ·intro h; cases h; exact⟨e,by simp,hk,by unfold upH; rw[if_pos rfl]⟩
   ·rintro⟨e',h1,h2,rfl⟩
    have:e'=e:=by
     rw[hk] at h2
     have h5:vs.idxOf (e:Int)=vs.idxOf (e':Int):=by have:=Value.int.inj h2; omega
     have h6:=jU he
     rw[h5,jU (hi.mem e' h1)] at h6
     have h7:(e':Int)=e:=Option.some.inj h6
     omega
    subst this
    unfold upH; rw[if_pos rfl]
  ·rw[if_neg hk,f2]
   constructor
   ·rintro⟨e',h1,h2,rfl⟩
    exact⟨e',by simp[h1],h2,by unfold upH; rw[if_neg];rintro rfl; exact hn h1⟩
   ·rintro⟨e',h1,h2,rfl⟩
    rcases List.mem_append.1 h1 with h3 | h3
    ·exact⟨e',h3,h2,by unfold upH; rw[if_neg];intro e5; exact hn (e5▸h3)⟩
    ·simp at h3; subst h3; exact absurd h2 hk
end
end Sr

namespace Sr
open Go Go.Proofs Go.RowKit Go.Maps Go.WideMaps
section
def WalkQ (w1:World)(vs:List Int)(b8 b7 mh:Nat)(x:Int)(ps:List Nat)(ok:Bool)(plv:Value)(wr:World)(e:Ending)(w':World): Prop :=
 ∃ (ps':List Nat) (hh':Nat→Nat) (ok':Bool) (plv':Value) (r:Nat),e=.returned (.int .i64 (r:Nat))∧Hid (GS w1 vs b8 b7 mh ps' hh' ok' plv' w')∧Hid (Wk (exps x) ps ok ps' ok' r)∧Hid (FE (GO b7 b8 mh plv) wr (GO b7 b8 mh plv') w')
theorem int_max (r h:Nat): Value.int .i64 (max (r:Int) ((h:Int)+1))=.int .i64 ((max r (h+1):Nat):Int):=by congr 1; omega
theorem int_max1 (r:Nat): Value.int .i64 (max (r:Int) 1)=.int .i64 ((max r 1:Nat):Int):=by congr 1; omega
theorem FE.alloc {F F':List Nat}{w w':World}(h:FE F w F' w')(o:Obj): FE F w F' (w'.alloc o) :=
 ⟨⟨h.fr.os,h.fr.tape,h.fr.output,by have:=h.fr.size; simp; omega,fun b hb hn=>(jE _ _ (Nat.lt_of_lt_of_le hb h.fr.size)).trans (h.fr.block b hb hn)⟩,h.sub⟩
variable {F:List Nat} {vs:List Int} {w1:World} {b8 b7 mh:Nat}
theorem hh_bd {ps:List Nat}{hh:Nat→Nat}{ok:Bool}(hv:WV vs)(hl:vs.length≤2147483648)(h:HInv vs ps hh ok){e:Nat}(he:e∈ps): hh e<2147483648:=by
 have:=h.le e he; have:=height_lt hv (h.mem e he);omega
def WalkC (_C:List Nat)(w1:World)(_p:Nat)(_F:List Nat)(_D:WD)(vs:List Int)(_gk:List Nat)(_m b6 b8 b2 b7 b9 mh:Nat)(x:Int): Prop :=
 ∀ (v:Value) (wr:World) (ps:List Nat) (hh:Nat→Nat) (ok:Bool) (plv:Value),TRow w1 v (pf vs x)→Hid (GS w1 vs b8 b7 mh ps hh ok plv wr) →
  Calls Tryz.prog 95 #[v,.pointer (some ⟨b6,0,none⟩),.pointer (some ⟨b8,0,none⟩),.pointer (some ⟨b2,0,none⟩),.pointer (some ⟨b7,0,none⟩),.pointer (some ⟨b9,0,none⟩)] wr (WalkQ w1 vs b8 b7 mh x ps ok plv wr)
theorem GS.drew {w1 wr:World}{vs:List Int}{b8 b7 mh:Nat}{ps:List Nat}{hh:Nat→Nat}{ok:Bool}{plv:Value}(S:GS w1 vs b8 b7 mh ps hh ok plv wr): GS w1 vs b8 b7 mh ps hh ok plv wr.drew:=S.below ((Below.refl _ _).drew)
theorem FE.setOk {w:World}{plv:Value}(v:Value): FE (GO b7 b8 mh plv) w (GO b7 b8 mh plv) (w.setCell ⟨b8,0,none⟩ v).drew :=
 ⟨⟨rfl,rfl,rfl,by simp,fun b _ hn=>jS _ _ _ _ (by show b≠b8; rintro rfl; exact hn (mem_GO.2 (.inr (.inl rfl))))⟩,fun _ h=>.inl h⟩
theorem walk_step {C:List Nat}{p:Nat}{D:WD}{gk:List Nat}{m b6 b2 b9:Nat}(B:Hid (GB C w1 p F D vs gk m b6 b8 b2 b7 b9 mh))(x:Int)(hx:∀ e∈exps x,(e:Int)∈vs) 
 (ih:∀ e∈exps x,WalkC C w1 p F D vs gk m b6 b8 b2 b7 b9 mh (e:Int)):WalkC C w1 p F D vs gk m b6 b8 b2 b7 b9 mh x:=by
 intro v wr0 ps hh ok plv hv0 S0
 have HV:Hid (TRow w1 v (pf vs x)):=hv0
 have HX:Hid (∀ e∈exps x,(e:Int)∈vs):=hx
 have IH:Hid (∀ e∈exps x,WalkC C w1 p F D vs gk m b6 b8 b2 b7 b9 mh (e:Int)):=ih
 have HVL:vs.length≤2147483648:=B.out.wo.vlen
 obtain⟨va,ca,rfl,_,_⟩:=hv0.shape
 obtain⟨N,hN⟩:∃ N,N=(pf vs x).length:=⟨_,rfl⟩
 have hNb:N≤2147483648:=by rw[hN];exact pf_len HVL hx
 rw[← hN] at HV
 have HNe:Hid (N=(pf vs x).length):=hN
 rw[← hN]
 clear hv0 hx ih hN
 go_enter Tryz.func95,Tryz.ntmps95
 go_wp2_with fail
 go_loopg [8,16] N (fun g1 vh vi wr=>∃ (k r:Nat) (ps1:List Nat) (hh1:Nat→Nat) (ok1:Bool) (plv1:Value),vh=.int .i64 (r:Nat)∧vi=.int .i64 k∧k≤N∧N - k≤g1∧r≤2147483648∧Hid (GS w1 vs b8 b7 mh ps1 hh1 ok1 plv1 wr)∧Hid (Wk ((exps x).take k) ps ok ps1 ok1 r)∧Hid (FE (GO b7 b8 mh plv) wr0 (GO b7 b8 mh plv1) wr))
 case atStart=>exact⟨0,0,ps,hh,ok,plv,rfl,rfl,by omega,by omega,by omega,S0,Wk.start _ _,FE.refl _ _⟩
 case round =>
  clear S0
  obtain⟨k,r,ps1,hh1,ok1,plv1,rfl,rfl,hkl,hg,hr,HS,HW,HFE⟩:=hrel
  by_cases hk:k<N
  ·have hkz:(k:Int)<(N:Int):=by omega
   have hk0:(0:Int)≤(k:Int):=Int.natCast_nonneg k
   have hkw:IntKind.i64.wrap ((k:Int)+1)=(k:Int)+1:=IntWalk.i64_in _ (by omega)
   have hNx:N=(exps x).length:=by rw[HNe.out];simp[pf,exps]
   obtain⟨e,he⟩:∃ e,(exps x)[k]? = some e:=⟨_,jG (by omega)⟩
   obtain⟨t,ht,rfl⟩:∃ t,(form x)[k]? = some t∧t.2=e:=by
    unfold exps at he; rw[List.getElem?_map] at he; exact Option.map_eq_some_iff.1 he
   obtain⟨sx,e⟩:=t
   have hem:=HX.out e (jM he)
   have hpk:(pf vs x)[k]? = some (sx,vs.idxOf (e:Int)):=by unfold pf; rw[List.getElem?_map,ht];rfl
   obtain⟨_,_,ea,_,sa⟩:=TRow.shape (B.out.trow HS.out.fr HV.out)
   obtain⟨ga,hga,cx0,cx1⟩:=sa k _ hpk
   rw[← HNe.out] at ea
   obtain⟨q1,q2,q3⟩:=Value.slice.inj ea
   subst hga
   subst q1
   clear q2 q3 ea sa
   dsimp only at cx0 cx1
   have hz:Hid (wr.heap.size+1=(wr.alloc (.cells #[.bool sx,.int .i64 (vs.idxOf (e:Int):Nat)] 154)).heap.size):=by show _=_; simp
   have hT:Hid ((exps x).take (k+1)=(exps x).take k++[e]):=j8 he
   have HE:Hid (e∈exps x):=jM he
   have HM:Hid ((e:Int)∈vs):=hem
   have HAl:Hid (vs.idxOf (e:Int)<vs.length):=zR hem
   have hwv:=jH B.out.wo.wv
   obtain⟨a,ha⟩:∃ a,a=vs.idxOf (e:Int):=⟨_,rfl⟩
   rw[← ha] at cx1 hz HAl
   have HA:Hid (a=vs.idxOf (e:Int)):=ha
   have c6:wr.cell? ⟨b6,0,none⟩=some (.map (some mh)):=by rw[jB (B.out.keep HS.out.fr B.out.bh (by decide) (by decide))];rfl
   have c8:wr.cell? ⟨b8,0,none⟩=some (.bool ok1):=by rw[jB HS.out.bo];rfl
   have l6:∀ o,(wr.alloc o).cell? ⟨b6,0,none⟩=some (.map (some mh)):=fun o=>by have hk:=B.out.keep HS.out.fr B.out.bh (by decide) (by decide);rw[jB ((jE _ _ (jA hk).1).trans hk)];rfl
   have l8:∀ o,(wr.alloc o).cell? ⟨b8,0,none⟩=some (.bool ok1):=fun o=>by have hk:=HS.out.bo; rw[jB ((jE _ _ (jA hk).1).trans hk)];rfl
   clear c6 c8
   have la:ga≠wr.heap.size:=by have:=jg cx0; omega
   have HS1:Hid (GS w1 vs b8 b7 mh ps1 hh1 ok1 plv1 (wr.alloc (.cells #[.bool sx,.int .i64 (a:Nat)] 154))):=HS.out.below ((Below.refl _ _).alloc (jR _) _)
   have hlook:=HS1.out.look HVL hem
   rw[← ha] at hlook
   clear ht he hem hpk ha hNx
   rcases hlook with ⟨hin,hlk⟩ | ⟨hin,hlk⟩
   ·have hlk1:=hlk _ rfl
    have hhb:=hh_bd hwv.out HVL HS1.out.inv hin
    obtain⟨hv1,hhv⟩:∃ hv1,hv1=hh1 e:=⟨_,rfl⟩
    rw[← hhv] at hlk1 hhb
    have HHV:Hid (hv1=hh1 e):=hhv
    have Hin:Hid (e∈ps1):=hin
    have hw1:IntKind.i64.wrap ((hv1:Int)+1)=(hv1:Int)+1:=IntWalk.i64_in _ (by omega)
    clear hlk hhv hin l8
    have HFE1:Hid (FE (GO b7 b8 mh plv) wr0 (GO b7 b8 mh plv1) (wr.alloc (.cells #[.bool sx,.int .i64 (a:Nat)] 154))):=HFE.out.alloc _
    clear HS HFE
    go_wp2_with fail
    go_roundg (N - (k+1))
    case measure=>omega
    case rel =>
     refine⟨k+1,max r (hv1+1),ps1,hh1,ok1,plv1,int_max r hv1,by go_num,by omega,by omega,by omega,HS1,?_,HFE1⟩
     show Wk _ _ _ _ _ _
     rw[hT.out,HHV.out];exact HW.out.known HS1.out.inv Hin.out
   ·have hlk1:=hlk _ rfl
    have Hnin:Hid (e∉ps1):=hin
    have HFE1:Hid (FE (GO b7 b8 mh plv) wr0 (GO b7 b8 mh plv1) (wr.alloc (.cells #[.bool sx,.int .i64 (a:Nat)] 154))):=HFE.out.alloc _
    clear hlk hin
    cases ok1
    ·clear HS HFE
     go_wp2_with fail
     go_roundg (N - (k+1))
     case measure=>omega
     case rel =>
      refine⟨k+1,max r 1,ps1,hh1,false,plv1,int_max1 r,by go_num,by omega,by omega,by omega,HS1,?_,HFE1⟩
      show Wk _ _ _ _ _ _
      rw[hT.out];exact HW.out.lost
    ·have HWO:=B.out.wo' HS1.out.fr
     obtain⟨gf,cf,hfv,hgF,hrow⟩:=HWO.formAt
     obtain⟨fv,efv,cfv,rfv,_⟩:=hrow a e (by rw[HA.out];exact jU HM.out)
     have HRV:Hid (TRow w1 fv (pf vs (e:Int))):=by
      obtain⟨fv',q1,q2,_⟩:=B.out.wo.rows a e (by rw[HA.out];exact jU HM.out)
      rw[efv] at q1; cases q1; exact q2
     have cp0:=HWO.c0
     rw[hfv] at cp0
     have cb2:(wr.alloc (.cells #[.bool sx,.int .i64 (a:Nat)] 154)).cell? ⟨b2,0,none⟩=some (.pointer (some ⟨p,0,none⟩)):=by rw[jB (B.out.keep HS1.out.fr B.out.bw (by decide) (by decide))];rfl
     have hb9:=B.out.keep HS1.out.fr B.out.bk (by decide) (by decide)
     have a0:(0:Int)≤(a:Int):=by omega
     have az:(a:Int)<(vs.length:Int):=by have:=HAl.out; omega
     obtain⟨fa,fc,rfl,_,_⟩:=rfv.shape
     obtain⟨NE,hNE⟩:∃ NE,NE=(pf vs (e:Int)).length:=⟨_,rfl⟩
     have HNE:Hid (NE=(pf vs (e:Int)).length):=hNE
     rw[← hNE] at cfv HRV
     have cb7:(wr.alloc (.cells #[.bool sx,.int .i64 (a:Nat)] 154)).cell? ⟨b7,0,none⟩=some plv1:=by rw[jB HS1.out.bp];rfl
     obtain⟨pa,pc,hplv⟩:∃ pa pc,plv1=.slice pa ps1.length pc:=by
      obtain⟨_,⟨q1,q2⟩ | ⟨g,cap,cur,q1,_⟩⟩:=HS1.out.row
      ·rw[List.length_map] at q2; exact⟨none,0,by rw[q1,q2]⟩
      ·rw[List.length_map] at q1; exact⟨_,cap,q1⟩
     have f8:(wr.alloc (.cells #[.bool sx,.int .i64 (a:Nat)] 154)).frozen? ⟨b8,0,none⟩=false:=jF HS1.out.bo 0
     have htb:(wr.alloc (.cells #[.bool sx,.int .i64 (a:Nat)] 154)).heap[wr.heap.size]? = some (.cells #[.bool sx,.int .i64 (a:Nat)] 154 (0,0)):=jD _ _
     have HTB:Hid (∀ w' F',FE (GO b7 b8 mh plv1) (wr.alloc (.cells #[.bool sx,.int .i64 (a:Nat)] 154)) F' w'→w'.heap[wr.heap.size]? = some (.cells #[.bool sx,.int .i64 (a:Nat)] 154 (0,0))):=fun w' F' hfe=>by
      rw[hfe.fr.block _ (by simp) ?_];exact htb
      rw[mem_GO]
      rintro (q | q | q | q)
      ·have:=(jA HS.out.bp).1; omega
      ·have:=(jA HS.out.bo).1; omega
      ·obtain⟨f,q1,_⟩:=HS.out.map; have:=q1.lt; omega
      ·have:=jP HS.out.row q; omega
     have HPB:ps1.length≤2147483648:=by
      have:=jT (ps1.map fun (e:Nat)=>(e:Int).toNat) (vs.map Int.toNat) (by simpa using HS1.out.inv.nodup) (fun y hy=>by
       obtain⟨e',q1,rfl⟩:=List.mem_map.1 hy
       exact List.mem_map.2 ⟨_,HS1.out.inv.mem e' q1,rfl⟩)
      simp at this; omega
     have c9:(wr.alloc (.cells #[.bool sx,.int .i64 (a:Nat)] 154)).cell? ⟨b9,0,none⟩=some (.func (.func 95) #[] #[.pointer (some ⟨b6,0,none⟩),.pointer (some ⟨b8,0,none⟩),.pointer (some ⟨b2,0,none⟩),.pointer (some ⟨b7,0,none⟩),.pointer (some ⟨b9,0,none⟩)]):=by rw[jB hb9];rfl
     have n98:b9≠b8:=jI hb9 HS1.out.bo (by decide)
     subst hplv
     clear HWO hrow efv rfv hb9 hNE htb HS HFE hgF hfv
     have HNF:Hid (NE=(form (e:Int)).length):=by show _=_; rw[HNE.out];simp[pf]
     by_cases h3:NE≤300
     ·have h3z:(NE:Int)≤300:=by omega
      have HOK:Hid (decide ((ps1.length:Int)<2000)=(decide ((form (e:Int)).length≤300)&&decide (ps1.length<2000))):=by
       show _=_
       rw[← HNF.out,decide_eq_true h3,Bool.true_and]
       exact decide_eq_decide.2 (by omega)
      go_wp2_with fail
      go_region
      go_wp2_with fail
      have HS5:Hid (GS w1 vs b8 b7 mh ps1 hh1 (decide ((ps1.length:Int)<2000)) (.slice pa ps1.length pc) ((wr.alloc (.cells #[.bool sx,.int .i64 (a:Nat)] 154)).setCell ⟨b8,0,none⟩ (.bool (decide ((ps1.length:Int)<2000)))).drew):=(HS1.out.setOk B.out (decide ((ps1.length:Int)<2000)) (fun _=>rfl)).drew
      refine (IH.out e HE.out _ _ ps1 hh1 (decide ((ps1.length:Int)<2000)) _ HRV.out HS5).mono ?_
      rintro y w2 ⟨ps2,hh2,ok3,plv2,q,rfl,HS2,HW2,HF2⟩
      have HW2':Hid (Wk (exps (e:Int)) ps1 (decide ((form (e:Int)).length≤300)&&decide (ps1.length<2000)) ps2 ok3 q):=by
       show Wk _ _ _ _ _ _
       rw[← HOK.out];exact HW2.out
      have HFE5:Hid (FE (GO b7 b8 mh (.slice pa ps1.length pc)) (wr.alloc (.cells #[.bool sx,.int .i64 (a:Nat)] 154)) (GO b7 b8 mh plv2) w2):=(FE.setOk _).trans HF2.out
      obtain⟨hn2,hinv⟩:=HInv.walked Hnin.out HM.out HW2'.out HS2.out.inv
      obtain⟨W4,hrun,hs4,hck,hrow4,hfin⟩:=HS2.out.pushed B.out HVL HM.out hinv hn2
      rw[← HA.out] at hrun hfin
      have htb2:=HTB.out w2 _ HFE5.out
      have c6w:w2.cell? ⟨b6,0,none⟩=some (.map (some mh)):=by rw[jB (B.out.keep HS2.out.fr B.out.bh (by decide) (by decide))];rfl
      have ctb2:w2.cell? ⟨wr.heap.size,1,none⟩=some (.int .i64 (a:Nat)):=by rw[jB htb2];rfl
      have ctb4:W4.cell? ⟨wr.heap.size,1,none⟩=some (.int .i64 (a:Nat)):=by rw[jB (hck _ _ _ _ htb2)];rfl
      have c7w:W4.cell? ⟨b7,0,none⟩=some plv2:=by rw[jB (hck _ _ _ _ HS2.out.bp)];rfl
      have hqb:q<2147483648:=by
       have h1:=HW2'.out.le
       rw[← zA] at h1
       have:=height_lt hwv.out HM.out
       omega
      have hps2:(ps2.map fun (e:Nat)=>vs.idxOf (e:Int)).length+1≤1099511627776:=by
       have:=jT (ps2.map fun (e:Nat)=>(e:Int).toNat) (vs.map Int.toNat) (by simpa using HS2.out.inv.nodup) (fun y hy=>by
        obtain⟨e',q1,rfl⟩:=List.mem_map.1 hy
        exact List.mem_map.2 ⟨_,HS2.out.inv.mem e' q1,rfl⟩)
       simp at this ⊢;omega
      have hwq:IntKind.i64.wrap ((q:Int)+1)=(q:Int)+1:=IntWalk.i64_in _ (by omega)
      obtain⟨ds2,hds2⟩:∃ ds2,ds2=ps2.map fun (e:Nat)=>vs.idxOf (e:Int):=⟨_,rfl⟩
      rw[← hds2] at hrow4 hfin hps2
      have HFin:=jH hfin
      have HRow4:=jH hrow4
      clear htb2 hck hrow4 hfin hs4 hinv hn2 hds2 hlk1 HTB HS1 HS5 HF2
      go_wp2_with (at_builtin; go_loud (refine app_I1L rfl _ _ rfl plv2 ds2 rfl (World.ownsRow.alloc HRow4.out _) _ a rfl (jD _ _) hps2 _ rfl ?_);intro g cap w3 I3 G3 A3 L3
                   obtain⟨hgs,hfe,c73,f73⟩:=HFin.out w3 g _ cap _ I3 G3 (by simpa using A3)
                   have HGS:=jH hgs
                   have HFE3:=jH hfe
                   clear I3 G3 A3 hgs hfe)
      go_roundg (N - (k+1))
      case measure=>omega
      case rel =>
       refine⟨k+1,max r (q+1),ps2++[e],upH hh2 e q,ok3,_,int_max r q,by go_num,by omega,by omega,by omega,HGS,?_,(HFE1.out.trans HFE5.out).trans HFE3.out⟩
       show Wk _ _ _ _ _ _
       rw[hT.out];exact HW.out.walked HW2'.out
     ·have h3z:¬ ((NE:Int)≤300):=by omega
      have HOK:Hid (false=(decide ((form (e:Int)).length≤300)&&decide (ps1.length<2000))):=by
       show _=_
       rw[← HNF.out,decide_eq_false h3,Bool.false_and]
      go_wp2_with fail
      go_region
      go_wp2_with fail
      have HS5:Hid (GS w1 vs b8 b7 mh ps1 hh1 false (.slice pa ps1.length pc) ((wr.alloc (.cells #[.bool sx,.int .i64 (a:Nat)] 154)).setCell ⟨b8,0,none⟩ (.bool false)).drew):=(HS1.out.setOk B.out false (fun _=>rfl)).drew
      refine (IH.out e HE.out _ _ ps1 hh1 false _ HRV.out HS5).mono ?_
      rintro y w2 ⟨ps2,hh2,ok3,plv2,q,rfl,HS2,HW2,HF2⟩
      have HW2':Hid (Wk (exps (e:Int)) ps1 (decide ((form (e:Int)).length≤300)&&decide (ps1.length<2000)) ps2 ok3 q):=by
       show Wk _ _ _ _ _ _
       rw[← HOK.out];exact HW2.out
      have HFE5:Hid (FE (GO b7 b8 mh (.slice pa ps1.length pc)) (wr.alloc (.cells #[.bool sx,.int .i64 (a:Nat)] 154)) (GO b7 b8 mh plv2) w2):=(FE.setOk _).trans HF2.out
      obtain⟨hn2,hinv⟩:=HInv.walked Hnin.out HM.out HW2'.out HS2.out.inv
      obtain⟨W4,hrun,hs4,hck,hrow4,hfin⟩:=HS2.out.pushed B.out HVL HM.out hinv hn2
      rw[← HA.out] at hrun hfin
      have htb2:=HTB.out w2 _ HFE5.out
      have c6w:w2.cell? ⟨b6,0,none⟩=some (.map (some mh)):=by rw[jB (B.out.keep HS2.out.fr B.out.bh (by decide) (by decide))];rfl
      have ctb2:w2.cell? ⟨wr.heap.size,1,none⟩=some (.int .i64 (a:Nat)):=by rw[jB htb2];rfl
      have ctb4:W4.cell? ⟨wr.heap.size,1,none⟩=some (.int .i64 (a:Nat)):=by rw[jB (hck _ _ _ _ htb2)];rfl
      have c7w:W4.cell? ⟨b7,0,none⟩=some plv2:=by rw[jB (hck _ _ _ _ HS2.out.bp)];rfl
      have hqb:q<2147483648:=by
       have h1:=HW2'.out.le
       rw[← zA] at h1
       have:=height_lt hwv.out HM.out
       omega
      have hps2:(ps2.map fun (e:Nat)=>vs.idxOf (e:Int)).length+1≤1099511627776:=by
       have:=jT (ps2.map fun (e:Nat)=>(e:Int).toNat) (vs.map Int.toNat) (by simpa using HS2.out.inv.nodup) (fun y hy=>by
        obtain⟨e',q1,rfl⟩:=List.mem_map.1 hy
        exact List.mem_map.2 ⟨_,HS2.out.inv.mem e' q1,rfl⟩)
       simp at this ⊢;omega
      have hwq:IntKind.i64.wrap ((q:Int)+1)=(q:Int)+1:=IntWalk.i64_in _ (by omega)
      obtain⟨ds2,hds2⟩:∃ ds2,ds2=ps2.map fun (e:Nat)=>vs.idxOf (e:Int):=⟨_,rfl⟩
      rw[← hds2] at hrow4 hfin hps2
      have HFin:=jH hfin
      have HRow4:=jH hrow4
      clear htb2 hck hrow4 hfin hs4 hinv hn2 hds2 hlk1 HTB HS1 HS5 HF2
      go_wp2_with (at_builtin; go_loud (refine app_I1L rfl _ _ rfl plv2 ds2 rfl (World.ownsRow.alloc HRow4.out _) _ a rfl (jD _ _) hps2 _ rfl ?_);intro g cap w3 I3 G3 A3 L3
                   obtain⟨hgs,hfe,c73,f73⟩:=HFin.out w3 g _ cap _ I3 G3 (by simpa using A3)
                   have HGS:=jH hgs
                   have HFE3:=jH hfe
                   clear I3 G3 A3 hgs hfe)
      go_roundg (N - (k+1))
      case measure=>omega
      case rel =>
       refine⟨k+1,max r (q+1),ps2++[e],upH hh2 e q,ok3,_,int_max r q,by go_num,by omega,by omega,by omega,HGS,?_,(HFE1.out.trans HFE5.out).trans HFE3.out⟩
       show Wk _ _ _ _ _ _
       rw[hT.out];exact HW.out.walked HW2'.out
  ·have hkz:¬ ((k:Int)<(N:Int)):=by omega
   go_wp2_with fail
   go_ret
   have hNx:N=(exps x).length:=by rw[HNe.out];simp[pf,exps]
   have hT:(exps x).take k=exps x:=List.take_of_length_le (by omega)
   have HW2:=HW.out
   rw[hT] at HW2
   exact⟨ps1,hh1,ok1,plv1,r,rfl,HS,HW2,HFE⟩
theorem walk_calls {C:List Nat}{p:Nat}{D:WD}{gk:List Nat}{m b6 b2 b9:Nat}(B:Hid (GB C w1 p F D vs gk m b6 b8 b2 b7 b9 mh)):
 ∀ (n:Nat) (x:Int),x.natAbs≤n→(∀ e∈exps x,(e:Int)∈vs)→WalkC C w1 p F D vs gk m b6 b8 b2 b7 b9 mh x:=by
 intro n
 induction n with
 | zero=>exact fun x h hx=>walk_step B x hx fun e he=>by have:=qz he; omega
 | succ n ih=>exact fun x h hx=>walk_step B x hx fun e he=>ih (e:Int) (by have:=qz he; omega) fun a ha=>B.out.wo.wv.mem_exps (hx e he) ha
end
section
def repl (G:Nat→Nat)(l:List PT): List PT:=l.map fun t=>(t.1,G t.2)
theorem repl_len (G:Nat→Nat)(l:List PT): (repl G l).length=l.length:=by simp[repl]
variable {l:List PT}
theorem repl_get {G:Nat→Nat}{k:Nat}{t:PT}(ht:l[k]? = some t): (repl G (l.take k)++l.drop k)[k]? = some t∧repl G (l.take (k+1))++l.drop (k+1)=(repl G (l.take k)++l.drop k).set k (t.1,G t.2):=by
 have hk:=(jL ht).1
 have e2:(repl G (l.take k)).length=k:=by rw[repl_len,List.length_take];omega
 constructor
 ·rw[List.getElem?_append_right (by omega),e2,Nat.sub_self,List.getElem?_drop,Nat.add_zero,ht]
 ·have e1:l.drop k=t::l.drop (k+1):=zy ht
  have e3:repl G (l.take (k+1))=repl G (l.take k)++[(t.1,G t.2)]:=by rw[j8 ht];simp[repl]
  rw[e3,e1,List.append_assoc,List.set_append_right _ _ (by omega),e2,Nat.sub_self]
  simp
theorem placedS_calls {W:World}{bp:Nat}{pv v:Value}{ds:List Nat}{G:Nat→Nat}(h1:W.heap[bp]? = some (.cells #[pv] 80 (0,0)))(hp:IRow W pv ds)(hl:TRow W v l) 
 (hd:∀ t∈l,ds[t.2]? = some (G t.2)) (hlen:l.length≤1000000) :
 Calls Tryz.prog 166 #[v,.pointer (some ⟨bp,0,none⟩)] W fun e W'=>∃ v',e=.returned v'∧Hid (TRow W' v' (repl G l))∧Hid (Below W.heap.size W W')∧Hid (∀ b,v'.ownBlock=some b→W.heap.size≤b):=by
 have HP:=jH hp
 have HD:Hid (∀ t∈l,ds[t.2]? = some (G t.2)):=hd
 clear hp hd
 have HCl:=zX hl (by omega)
 have H1:=jH h1
 clear h1
 go_enter Tryz.func166,Tryz.ntmps166
 go_wp2_with fail
 refine HCl.mono ?_
 rintro y w1 ⟨v1,rfl,hr1,hb1,ho1⟩
 clear HCl
 obtain⟨a1,c1,rfl,_,_⟩:=hr1.out.shape
 have K0:Hid (w1.ownsRow 0 154 2 (.slice a1 l.length c1) l.length (tcells (repl G (l.take 0)++l.drop 0))):=hr1.out
 have HO:Hid (∀ b,(Value.slice a1 l.length c1).ownBlock=some b→W.heap.size≤b):=ho1
 clear hr1 ho1
 go_wp2_with fail
 go_loopg [9] l.length (fun g1 vi wr=>∃ k:Nat,vi=.int .i64 k∧k≤l.length∧l.length - k≤g1∧Hid (wr.ownsRow 0 154 2 (.slice a1 l.length c1) l.length (tcells (repl G (l.take k)++l.drop k)))∧Hid (Below W.heap.size W wr))
 case atStart=>exact⟨0,rfl,by omega,by omega,K0,hb1⟩
 case round =>
  clear K0 hb1
  obtain⟨k,rfl,hkl,hg,HK,HB⟩:=hrel
  by_cases hk:k<l.length
  ·have hkz:(k:Int)<(l.length:Int):=by omega
   have hk0:(0:Int)≤(k:Int):=Int.natCast_nonneg k
   have hkw:IntKind.i64.wrap ((k:Int)+1)=(k:Int)+1:=IntWalk.i64_in _ (by omega)
   obtain⟨t,ht⟩:∃ t,l[k]? = some t:=⟨_,jG hk⟩
   obtain⟨hlk,hnx0⟩:=repl_get (G:=G) ht
   have hnx:Hid (repl G (l.take (k+1))++l.drop (k+1)=(repl G (l.take k)++l.drop k).set k (t.1,G t.2)):=hnx0
   clear hnx0
   have hbl:=jH ((HB.out.block bp (jA H1.out).1).trans H1.out)
   have htd:=HD.out t (jM ht)
   have htl:=(jL htd).1
   obtain⟨gp,cp,rfl,cq⟩:=qS (k:=t.2) (x:=.int .i64 (G t.2:Nat)) (jK HP.out HB.out) (by rw[List.getElem?_map,htd];rfl)
   have cb:wr.cell? ⟨bp,0,none⟩=some (.slice (some ⟨gp,0,none⟩) ds.length cp):=by rw[jB hbl.out];rfl
   have t1:(t.2:Int)<(ds.length:Int):=by omega
   clear htd htl
   obtain⟨hh1,⟨hh2,hh3⟩ | ⟨g,cap,cur,hv,_,h4,h5,h6,h7,h8⟩⟩:=HK.out
   ·omega
   ·cases hv
    obtain⟨_,d1⟩:=qG hlk
    rw[← h8,List.getElem?_take_of_lt (by omega),Array.getElem?_toList,← jB h4] at d1
    have f1:=jF h4 (k*2+1)
    have t0:(0:Int)≤(t.2:Int):=Int.natCast_nonneg _
    have HS:Hid _:=setP (G t.2) hlk HK.out
    have HB2:Hid (Below W.heap.size W (wr.setCell ⟨g,k*2+1,none⟩ (.int .i64 (G t.2:Nat))).drew):=⟨HB.out.os,HB.out.tape,HB.out.output,by have:=HB.out.size; simpa using this,fun b hb=>(jS _ _ _ _ (show b≠g by have:=HO.out g rfl; omega)).trans (HB.out.block b hb)⟩
    obtain⟨q,hq⟩:∃ q,q=G t.2:=⟨_,rfl⟩
    rw[← hq] at HS HB2 hnx
    clear hh1 h4 h5 h6 h7 h8 ht hlk
    rw[← hq] at cq
    clear hq
    go_wp2_with fail
    go_region
    go_wp2_with fail
    go_roundg (l.length - (k+1))
    case measure=>omega
    case rel=>exact⟨k+1,by go_num,by omega,by omega,by show World.ownsRow _ _ _ _ _ _ _; rw[hnx.out];exact HS.out,HB2⟩
  ·have hkz:¬ ((k:Int)<(l.length:Int)):=by omega
   have HR:Hid (TRow wr (.slice a1 l.length c1) (repl G l)):=by
    have h:=HK.out
    rw[List.take_of_length_le (by omega),List.drop_eq_nil_of_le (by omega),List.append_nil] at h
    show TRow _ _ _
    unfold TRow; rw[repl_len];exact h
   go_wp2_with fail
   go_ret
   exact⟨_,rfl,HR,HB,HO⟩
theorem placedM_calls {W:World}{bp mb:Nat}{v:Value}{G:Nat→Nat}{f:Value→Option Value}(h1:W.heap[bp]? = some (.cells #[.map (some mb)] 122 (0,0)))(hf:MapF Tryz.prog 3 W mb f)(hl:TRow W v l) 
 (hd:∀ t∈l,t.2<2147483648∧f (.int .i64 (t.2:Nat))=some (.int .i64 (G t.2:Nat))) (hlen:l.length≤1000000) :
 Calls Tryz.prog 97 #[v,.pointer (some ⟨bp,0,none⟩)] W fun e W'=>∃ v',e=.returned v'∧Hid (TRow W' v' (repl G l))∧Hid (Below W.heap.size W W')∧Hid (∀ b,v'.ownBlock=some b→W.heap.size≤b):=by
 have HF:=jH hf
 have HD:Hid (∀ t∈l,t.2<2147483648∧f (.int .i64 (t.2:Nat))=some (.int .i64 (G t.2:Nat))):=hd
 clear hf hd
 have HCl:=zX hl (by omega)
 have H1:=jH h1
 clear h1
 go_enter Tryz.func97,Tryz.ntmps97
 go_wp2_with fail
 refine HCl.mono ?_
 rintro y w1 ⟨v1,rfl,hr1,hb1,ho1⟩
 clear HCl
 obtain⟨a1,c1,rfl,_,_⟩:=hr1.out.shape
 have K0:Hid (w1.ownsRow 0 154 2 (.slice a1 l.length c1) l.length (tcells (repl G (l.take 0)++l.drop 0))):=hr1.out
 have HO:Hid (∀ b,(Value.slice a1 l.length c1).ownBlock=some b→W.heap.size≤b):=ho1
 clear hr1 ho1
 go_wp2_with fail
 go_loopg [9] l.length (fun g1 vi wr=>∃ k:Nat,vi=.int .i64 k∧k≤l.length∧l.length - k≤g1∧Hid (wr.ownsRow 0 154 2 (.slice a1 l.length c1) l.length (tcells (repl G (l.take k)++l.drop k)))∧Hid (Below W.heap.size W wr))
 case atStart=>exact⟨0,rfl,by omega,by omega,K0,hb1⟩
 case round =>
  clear K0 hb1
  obtain⟨k,rfl,hkl,hg,HK,HB⟩:=hrel
  by_cases hk:k<l.length
  ·have hkz:(k:Int)<(l.length:Int):=by omega
   have hk0:(0:Int)≤(k:Int):=Int.natCast_nonneg k
   have hkw:IntKind.i64.wrap ((k:Int)+1)=(k:Int)+1:=IntWalk.i64_in _ (by omega)
   obtain⟨t,ht⟩:∃ t,l[k]? = some t:=⟨_,jG hk⟩
   obtain⟨hlk,hnx0⟩:=repl_get (G:=G) ht
   have hnx:Hid (repl G (l.take (k+1))++l.drop (k+1)=(repl G (l.take k)++l.drop k).set k (t.1,G t.2)):=hnx0
   clear hnx0
   have hbl:=jH ((HB.out.block bp (jA H1.out).1).trans H1.out)
   obtain⟨hkb,hkf⟩:=HD.out t (jM ht)
   have hl2:keyOf Tryz.prog 3 (.int .i64 (t.2:Nat))=some (.int .i64 (t.2:Nat)):=keyInt (wfNat (by omega))
   have hlook:(Instr.lookup 122 (.map (some mb)) (.int .i64 (t.2:Nat)) false).run Tryz.prog wr.drew=.ok (.int .i64 (G t.2:Nat)) wr.drew:=by
    have:=((HF.out.kept (HB.out.block _ HF.out.lt)).kept (w':=wr.drew) rfl).look false law3 Tryz.underlying122 (zero3 wr.drew) hl2
    simpa [hkf] using this
   have cb:wr.cell? ⟨bp,0,none⟩=some (.map (some mb)):=by rw[jB hbl.out];rfl
   clear hl2 hkb hkf
   obtain⟨hh1,⟨hh2,hh3⟩ | ⟨g,cap,cur,hv,_,h4,h5,h6,h7,h8⟩⟩:=HK.out
   ·omega
   ·cases hv
    obtain⟨_,d1⟩:=qG hlk
    rw[← h8,List.getElem?_take_of_lt (by omega),Array.getElem?_toList,← jB h4] at d1
    have f1:=jF h4 (k*2+1)
    have t0:(0:Int)≤(t.2:Int):=Int.natCast_nonneg _
    have HS:Hid _:=setP (G t.2) hlk HK.out
    have HB2:Hid (Below W.heap.size W (wr.setCell ⟨g,k*2+1,none⟩ (.int .i64 (G t.2:Nat))).drew):=⟨HB.out.os,HB.out.tape,HB.out.output,by have:=HB.out.size; simpa using this,fun b hb=>(jS _ _ _ _ (show b≠g by have:=HO.out g rfl; omega)).trans (HB.out.block b hb)⟩
    obtain⟨q,hq⟩:∃ q,q=G t.2:=⟨_,rfl⟩
    rw[← hq] at HS HB2 hnx
    clear hh1 h4 h5 h6 h7 h8 ht hlk
    rw[← hq] at hlook
    clear hq
    go_wp2_with fail
    go_region
    go_wp2_with fail
    go_roundg (l.length - (k+1))
    case measure=>omega
    case rel=>exact⟨k+1,by go_num,by omega,by omega,by show World.ownsRow _ _ _ _ _ _ _; rw[hnx.out];exact HS.out,HB2⟩
  ·have hkz:¬ ((k:Int)<(l.length:Int)):=by omega
   have HR:Hid (TRow wr (.slice a1 l.length c1) (repl G l)):=by
    have h:=HK.out
    rw[List.take_of_length_le (by omega),List.drop_eq_nil_of_le (by omega),List.append_nil] at h
    show TRow _ _ _
    unfold TRow; rw[repl_len];exact h
   go_wp2_with fail
   go_ret
   exact⟨_,rfl,HR,HB,HO⟩
end
end Sr
