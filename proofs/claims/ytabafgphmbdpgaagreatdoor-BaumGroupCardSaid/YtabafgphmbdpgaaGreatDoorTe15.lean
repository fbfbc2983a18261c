/- Texts of this claim, joined: GiveX, Give, Ops1. -/
import Derived.Test.YtabafgphmbdpgaaGreatDoorTe1
import Derived.Test.YtabafgphmbdpgaaGreatDoorTe14
import Derived.Laws.EntriesVeiled
set_option maxHeartbeats 8000000
set_option maxRecDepth 100000
namespace Sr
open Go Go.Proofs Go.RowKit Go.Maps Go.WideMaps
def giveW (W:World)(p:Nat): World :=
 (((((((W.alloc (.cells #[.pointer (some ⟨p,0,none⟩)] 107)).alloc (.cells #[.pointer none] 26)).alloc (.map #[] 0)).alloc (.cells #[.map (some (W.heap.size+1+1))] 122)).alloc (.cells #[.slice none 0 0] 80)).alloc (.cells #[.bool true] 4)).alloc
   (.cells #[.func (.func 95) #[] #[.pointer (some ⟨W.heap.size+1+1+1,0,none⟩),.pointer (some ⟨W.heap.size+1+1+1+1+1,0,none⟩),.pointer (some ⟨W.heap.size,0,none⟩),.pointer (some ⟨W.heap.size+1+1+1+1,0,none⟩),.pointer (some ⟨W.heap.size+1+1+1+1+1+1,0,none⟩)]] 126))
theorem xG (W:World)(p:Nat): (giveW W p).heap.size=W.heap.size+7:=by unfold giveW; simp
theorem giveW_below (W:World)(p:Nat): Below W.heap.size W (giveW W p):=by
 unfold giveW
 exact (((((((Below.refl _ _).alloc (jR _) _).alloc (by simp) _).alloc (by simp; omega) _).alloc (by simp; omega) _).alloc (by simp; omega) _).alloc (by simp; omega) _).alloc (by simp; omega) _
theorem j7 {w:World}{o:Obj}{n:Nat}(h:w.heap.size=n): (w.alloc o).heap[n]? = some o:=by rw[← h];exact jD w o
theorem giveW_base {C:List Nat}{W:World}{p:Nat}{F:List Nat}{D:WD}{vs:List Int}{gk:List Nat}{m:Nat}(H:WO C W p F D vs gk m):
 GB C (giveW W p) p F D vs gk m (W.heap.size+1+1+1) (W.heap.size+1+1+1+1+1) W.heap.size (W.heap.size+1+1+1+1) (W.heap.size+1+1+1+1+1+1) (W.heap.size+1+1) ∧
 GS (giveW W p) vs (W.heap.size+1+1+1+1+1) (W.heap.size+1+1+1+1) (W.heap.size+1+1) [] (fun _=>0) true (.slice none 0 0) (giveW W p) ∧
 (giveW W p).heap[W.heap.size+1]? = some (.cells #[.pointer none] 26 (0,0)):=by
 have hsz:=xG W p
 have hb:=H.blt
 have hwo:=H.below (giveW_below W p)
 have e0:(giveW W p).heap[W.heap.size]? = some (.cells #[.pointer (some ⟨p,0,none⟩)] 107 (0,0)):=by
  unfold giveW; rw[jE _ _ (by simp <;>omega),jE _ _ (by simp <;>omega),jE _ _ (by simp <;>omega),jE _ _ (by simp <;>omega),jE _ _ (by simp <;>omega),jE _ _ (by simp)];exact j7 rfl
 have e1:(giveW W p).heap[W.heap.size+1]? = some (.cells #[.pointer none] 26 (0,0)):=by
  unfold giveW; rw[jE _ _ (by simp <;>omega),jE _ _ (by simp <;>omega),jE _ _ (by simp <;>omega),jE _ _ (by simp <;>omega),jE _ _ (by simp)];exact j7 (by simp)
 have e2:(giveW W p).heap[W.heap.size+1+1]? = some (.map #[] 0):=by
  unfold giveW; rw[jE _ _ (by simp <;>omega),jE _ _ (by simp <;>omega),jE _ _ (by simp <;>omega),jE _ _ (by simp)];exact j7 (by simp)
 have e3:(giveW W p).heap[W.heap.size+1+1+1]? = some (.cells #[.map (some (W.heap.size+1+1))] 122 (0,0)):=by
  unfold giveW; rw[jE _ _ (by simp <;>omega),jE _ _ (by simp <;>omega),jE _ _ (by simp)];exact j7 (by simp)
 have e4:(giveW W p).heap[W.heap.size+1+1+1+1]? = some (.cells #[.slice none 0 0] 80 (0,0)):=by
  unfold giveW; rw[jE _ _ (by simp <;>omega),jE _ _ (by simp)];exact j7 (by simp)
 have e5:(giveW W p).heap[W.heap.size+1+1+1+1+1]? = some (.cells #[.bool true] 4 (0,0)):=by
  unfold giveW; rw[jE _ _ (by simp)];exact j7 (by simp)
 have e6:(giveW W p).heap[W.heap.size+1+1+1+1+1+1]? = some (.cells #[.func (.func 95) #[] #[.pointer (some ⟨W.heap.size+1+1+1,0,none⟩),.pointer (some ⟨W.heap.size+1+1+1+1+1,0,none⟩),.pointer (some ⟨W.heap.size,0,none⟩),.pointer (some ⟨W.heap.size+1+1+1+1,0,none⟩),.pointer (some ⟨W.heap.size+1+1+1+1+1+1,0,none⟩)]] 126 (0,0)):=by
  unfold giveW; exact j7 (by simp)
 refine⟨⟨hwo,e3,e0,e6,fun h=>?_,fun h=>?_,fun h=>?_,by omega,by omega,by omega,⟨_,e4⟩,⟨_,e5⟩,⟨_,_,e2⟩⟩,⟨HInv.start _ _,Fr.refl _ _,e5,e4,⟨rfl,.inl ⟨rfl,rfl⟩⟩,fun b h=>(by cases h),⟨fun _=>none,⟨#[],0,e2,by simp,by simp,by simp⟩,fun k v=>(by simp)⟩⟩,e1⟩
 ·have:=hb _ h; omega
 ·have:=hb _ h; omega
 ·have:=hb _ h; omega
theorem sorted_places {vs:List Int}(_hv:WV vs){x:Int}{ps ds':List Nat}(hnd:ps.Nodup)(hm:∀ e∈ps,(e:Int)∈vs)(hp:∀ e,e∈ps↔e∈Sr.parts x)(hperm:ds'.Perm (ps.map fun (e:Nat)=>vs.idxOf (e:Int)))(hs:ds'.Pairwise fun i j=>zb vs i≤zb vs j):
 ds'=(Sr.parts x).map fun (e:Nat)=>vs.idxOf (e:Int):=by
 have hmem:∀ i∈ds',∃ e∈ps,i=vs.idxOf (e:Int):=fun i hi=>by
  obtain⟨e,h1,h2⟩:=List.mem_map.1 (hperm.mem_iff.1 hi);exact⟨e,h1,h2.symm⟩
 have hat:∀ i∈ds',vs.idxOf (((zb vs i).toNat:Nat):Int)=i∧(zb vs i).toNat∈ps:=fun i hi=>by
  obtain⟨e,h1,rfl⟩:=hmem i hi
  rw[WV.at_idx (hm e h1)];simp[h1]
 have e1:ds'=(ds'.map fun i=>(zb vs i).toNat).map fun (e:Nat)=>vs.idxOf (e:Int):=by
  rw[List.map_map]
  conv=>lhs; rw[← List.map_id ds']
  exact List.map_congr_left fun i hi=>(hat i hi).1.symm
 have hnd':ds'.Nodup:=hperm.nodup_iff.2 (by
  unfold List.Nodup; rw[List.pairwise_map]
  refine hnd.imp_of_mem fun {a b} ha hb hne he=>hne ?_
  have h1:=jU (hm a ha)
  rw[he,jU (hm b hb)] at h1
  have:(b:Int)=a:=Option.some.inj h1
  omega)
 have e2:(ds'.map fun i=>(zb vs i).toNat)=Sr.parts x:=by
  refine yJ ?_ (qR x) fun e=>?_
  ·rw[List.pairwise_map]
   refine (hs.and hnd').imp_of_mem fun {a b} ha hb hab=>?_
   obtain⟨e,he,rfl⟩:=hmem a ha
   obtain⟨e',he',rfl⟩:=hmem b hb
   rw[WV.at_idx (hm e he),WV.at_idx (hm e' he')] at hab ⊢
   rcases Nat.lt_or_ge e e' with h | h
   ·simpa using h
   ·exfalso
    have:e=e':=by have:=hab.1; omega
    subst this; exact hab.2 rfl
  ·rw[← hp]
   constructor
   ·intro h
    obtain⟨i,hi,rfl⟩:=List.mem_map.1 h
    exact (hat i hi).2
   ·intro h
    refine List.mem_map.2 ⟨vs.idxOf (e:Int),hperm.mem_iff.2 (List.mem_map.2 ⟨e,h,rfl⟩),?_⟩
    rw[WV.at_idx (hm e h)];simp
 rw[e1,e2]
noncomputable def gi (vs:List Int)(x:Int)(i:Nat): Nat:=(Sr.parts x).idxOf (zb vs i).toNat
theorem repl_gi {vs:List Int}{x y:Int}(hy:∀ e∈exps y,(e:Int)∈vs): repl (gi vs x) (pf vs y)=atPl (Sr.parts x) y:=by
 unfold repl pf atPl
 rw[List.map_map]
 refine List.map_congr_left fun t ht=>?_
 simp only[Function.comp,gi]
 rw[WV.at_idx (hy t.2 (mem_exps ht))];simp
structure GL (w4:World)(vs:List Int)(x:Int)(mp b13 k:Nat)(ov:Value)(fl:List Value)(wr:World): Prop where
 fr:Fr [mp,b13] w4 wr
 obj:wr.heap[b13]? = some (.cells #[ov,.slice none 0 0] 158 (0,0))
 orow:wr.ownsRow 0 111 1 ov k fl
 own:∀ b,ov.ownBlock=some b→w4.heap.size≤b
 rows:∀ (i q:Nat),i<k→(Sr.parts x)[i]? = some q→∃ u,fl[i]? = some u∧TRow wr u (atPl (Sr.parts x) (q:Int))
 map:∃ f,MapF Tryz.prog 3 wr mp f∧∀ (i q:Nat),i<k→(Sr.parts x)[i]? = some q→f (.int .i64 (vs.idxOf (q:Int):Nat))=some (.int .i64 (i:Nat))
section
variable {w4 wr:World} {vs:List Int} {x:Int} {mp b13 k:Nat} {ov:Value} {fl:List Value}
theorem GL.keep (S:GL w4 vs x mp b13 k ov fl wr){b:Nat}(hb:b<w4.heap.size)(h1:b≠mp)(h2:b≠b13): wr.heap[b]? = w4.heap[b]?:=S.fr.block b hb (by simp[h1,h2])
theorem GL.places {w':World}{f:Value→Option Value}(hv:WV vs)(hl:vs.length≤2147483648){n:Nat}{y:Int}(hm:∀ e∈Sr.parts x,((e:Nat):Int)∈vs)(hf:∀ (i q:Nat),i<n→(Sr.parts x)[i]? = some q→f (.int .i64 (vs.idxOf (q:Int):Nat))=some (.int .i64 (i:Nat))) 
 (hy:∀ e∈exps y,e∈(Sr.parts x).take n):∀ t∈pf vs y,t.2<2147483648∧f (.int .i64 (t.2:Nat))=some (.int .i64 (gi vs x t.2:Nat)):=by
 have _:=hv
 have _:=w'
 intro t ht
 obtain⟨u,hu,rfl⟩:=List.mem_map.1 ht
 have h1:=hy u.2 (mem_exps hu)
 have h2:u.2∈Sr.parts x:=List.mem_of_mem_take h1
 have h3:=hm u.2 h2
 refine⟨by have:=zR h3; show vs.idxOf _<_; omega,?_⟩
 obtain⟨i,hi⟩:=List.mem_iff_getElem?.1 h1
 have hin:i<n:=by have:=(jL hi).1; rw[List.length_take] at this; omega
 rw[List.getElem?_take_of_lt hin] at hi
 have:=hf i u.2 hin hi
 show f (.int .i64 (vs.idxOf (u.2:Int):Nat))=_
 rw[this]
 unfold gi
 dsimp only
 rw[WV.at_idx h3]
 have h5:(Sr.parts x).idxOf u.2=i:=by
  obtain⟨hlt,he⟩:=jL hi
  rw[← he];exact List.Nodup.idxOf_getElem (qE x) i hlt
 simp[h5]
theorem GL.step (S:GL w4 vs x mp b13 k ov fl wr)(hl:vs.length≤2147483648){q:Nat}(hq:(Sr.parts x)[k]? = some q)(hm:∀ e∈Sr.parts x,((e:Nat):Int)∈vs)(lm:mp<w4.heap.size)(l13:b13<w4.heap.size):
 ∃ W5,(Instr.mapUpdate 122 (.map (some mp)) (.int .i64 (vs.idxOf (q:Int):Nat)) (.int .i64 (k:Nat))).run Tryz.prog wr=.ok () W5∧W5.heap.size=wr.heap.size∧(∀ b,b≠mp→W5.heap[b]? = wr.heap[b]?) ∧
  (∃ f,MapF Tryz.prog 3 W5 mp f∧∀ (i q:Nat),i<k+1→(Sr.parts x)[i]? = some q→f (.int .i64 (vs.idxOf (q:Int):Nat))=some (.int .i64 (i:Nat))) ∧
  ∀ (w6 w7:World) (u:Value) (o:Obj) (g cap:Nat),Below W5.heap.size W5 w6→TRow w6 u (atPl (Sr.parts x) (q:Int))→w7.ownsRow 0 111 1 (.slice (some ⟨g,0,none⟩) (k+1) cap) (k+1) (fl++[u])→(w6.alloc o).grownBy w7 ov.ownBlock→(ov.ownBlock=some g∨g=w6.heap.size+1) →
   w7.cell? ⟨b13,0,none⟩=some ov∧w7.frozen? ⟨b13,0,none⟩=false∧GL w4 vs x mp b13 (k+1) (.slice (some ⟨g,0,none⟩) (k+1) cap) (fl++[u]) (w7.setCell ⟨b13,0,none⟩ (.slice (some ⟨g,0,none⟩) (k+1) cap)):=by
 obtain⟨f,f1,f2⟩:=S.map
 have hqv:=hm q (jM hq)
 have hkey:keyOf Tryz.prog 3 (.int .i64 (vs.idxOf (q:Int):Nat))=some (.int .i64 (vs.idxOf (q:Int):Nat)):=keyInt (wfNat (by have:=zR hqv; omega))
 obtain⟨W5,hrun,M5,s5,G5⟩:=f1.store law3 Tryz.underlying122 (v:=.int .i64 (k:Nat)) hkey
 have hmap5:∀ (i r:Nat),i<k+1→(Sr.parts x)[i]? = some r→updF f (.int .i64 (vs.idxOf (q:Int):Nat)) (.int .i64 (k:Nat)) (.int .i64 (vs.idxOf (r:Int):Nat))=some (.int .i64 (i:Nat)):=by
  intro i r hi hr
  unfold updF
  by_cases hik:i=k
  ·subst hik
   rw[hq] at hr; cases hr
   rw[if_pos rfl]
  ·rw[if_neg]
   ·exact f2 i r (by omega) hr
   ·intro he
    have h5:vs.idxOf (r:Int)=vs.idxOf (q:Int):=by have:=Value.int.inj he; omega
    have h6:=jU (hm r (jM hr))
    rw[h5,jU hqv] at h6
    have h7:(q:Int)=r:=Option.some.inj h6
    have h8:q=r:=by omega
    subst h8
    obtain⟨a1,a2⟩:=jL hr
    obtain⟨b1,b2⟩:=jL hq
    have e1:=List.Nodup.idxOf_getElem (qE x) i a1
    have e2:=List.Nodup.idxOf_getElem (qE x) k b1
    rw[a2] at e1
    rw[b2] at e2
    exact hik (e1.symm.trans e2)
 have k5:∀ b,b≠mp→W5.heap[b]? = wr.heap[b]?:=fun b hb=>by
  rcases Nat.lt_or_ge b wr.heap.size with h | h
  ·exact G5.block b h (by intro e; cases e; exact hb rfl)
  ·rw[Array.getElem?_eq_none (by omega),Array.getElem?_eq_none h]
 refine⟨W5,hrun,s5,k5,⟨_,M5,hmap5⟩,fun w6 w7 u o g cap hb hu hown hg hat=>?_⟩
 have hsz:=S.fr.size
 have n13m:b13≠mp:=qD ⟨_,_,_,S.obj⟩ f1
 have o5:W5.heap[b13]? = some (.cells #[ov,.slice none 0 0] 158 (0,0)):=(k5 _ n13m).trans S.obj
 have hs6:=hb.size
 have nov13:ov.ownBlock≠some b13:=fun e=>by
  obtain⟨c,hc⟩:=jO S.orow e
  exact jI hc S.obj (by decide) rfl
 have novm:ov.ownBlock≠some mp:=fun e=>by
  obtain⟨c,hc⟩:=jO S.orow e
  exact qD ⟨_,_,_,hc⟩ f1 rfl
 have keep7:∀ b,b<W5.heap.size→ov.ownBlock≠some b→w7.heap[b]? = W5.heap[b]?:=fun b h1 h2 =>
  (hg.block b (by simp; omega) (fun e=>h2 e.symm)).trans ((jE _ _ (by omega)).trans (hb.block b h1))
 have h7:w7.heap[b13]? = some (.cells #[ov,.slice none 0 0] 158 (0,0)):=(keep7 _ (by omega) nov13).trans o5
 have keep:∀ b,b<W5.heap.size→ov.ownBlock≠some b→b≠b13→(w7.setCell ⟨b13,0,none⟩ (.slice (some ⟨g,0,none⟩) (k+1) cap)).heap[b]? = W5.heap[b]?:=fun b h1 h2 h3 =>
  (jS _ _ _ _ h3).trans (keep7 b h1 h2)
 have hs7:w6.heap.size+1≤w7.heap.size:=by have:=hg.size; simpa using this
 have rowk:∀ {u:Value} {l:List PT},TRow W5 u l→TRow (w7.setCell ⟨b13,0,none⟩ (.slice (some ⟨g,0,none⟩) (k+1) cap)) u l:=fun {u l} h =>
  jJ h fun b e=>by
   obtain⟨c,hc⟩:=jO h e
   refine keep b (jP h e) ?_ (jI hc o5 (by decide))
   intro e2
   obtain⟨c2,hc2⟩:=jO S.orow e2
   rw[← k5 b (by rintro rfl; exact novm e2)] at hc2
   exact jI hc hc2 (by decide) rfl
 have hfl:fl.length=k:=by have:=S.orow.1; omega
 refine⟨by rw[jB h7];rfl,jF h7 0,⟨?_,?_,?_,?_,?_,?_⟩⟩
 ·refine⟨(show w7.os=w6.os from hg.os).trans (hb.os.trans (G5.os.trans S.fr.os)),(show w7.tape=w6.tape from hg.tape).trans (hb.tape.trans (G5.tape.trans S.fr.tape)),(show w7.output=w6.output from hg.output).trans (hb.output.trans (G5.output.trans S.fr.output)),by simp; omega,fun b h1 h2=>?_⟩
  have h3:b≠mp∧b≠b13:=by simpa using h2
  rw[keep b (by omega) (fun e=>by have:=S.own b e; omega) h3.2,k5 b h3.1]
  exact S.fr.block b h1 h2
 ·exact heap_setCell_same w7 b13 0 _ 158 _ h7
 ·exact jJ hown fun b e=>jS _ _ _ _ (by
   show b≠b13
   intro e5
   obtain⟨c,hc⟩:=jO hown e
   exact jI hc h7 (by decide) e5)
 ·intro b e
  have e':b=g:=by simpa [Value.ownBlock] using e.symm
  subst e'
  rcases hat with h | h
  ·exact S.own b h
  ·omega
 ·intro i r hi hr
  by_cases hik:i<k
  ·obtain⟨u',h1,h2⟩:=S.rows i r hik hr
   refine⟨u',by rw[List.getElem?_append_left (by omega)];exact h1,rowk (jJ h2 fun b e=>k5 b ?_)⟩
   obtain⟨c,hc⟩:=jO h2 e
   exact qD ⟨_,_,_,hc⟩ f1
  ·have hik2:i=k:=by omega
   subst hik2
   rw[hq] at hr; cases hr
   refine⟨u,by rw[List.getElem?_append_right (by omega)];simp[hfl],?_⟩
   refine jJ hu fun b e=>?_
   obtain⟨c,hc⟩:=jO hu e
   have hlt:=jP hu e
   refine (jS _ _ _ _ ?_).trans ((hg.block b (by simp; omega) ?_).trans (jE _ _ hlt))
   ·show b≠b13
    have:w6.heap[b13]? = some (.cells #[ov,.slice none 0 0] 158 (0,0)):=(hb.block _ (by omega)).trans o5
    exact jI hc this (by decide)
   ·intro e2
    obtain⟨c2,hc2⟩:=jO S.orow e2.symm
    have h3:W5.heap[b]? = some (.cells c2 111 (0,0)):=(k5 b (by rintro rfl; exact novm e2.symm)).trans hc2
    have h4:=(hb.block b (by have:=jP S.orow e2.symm; omega)).trans h3
    exact jI hc h4 (by decide) rfl
 ·exact⟨_,M5.kept (keep mp (by omega) novm n13m.symm),hmap5⟩
end
section
def NR (w:World)(x:Int)(nv:Value)(er:Int): Prop:=(allowed x∧er=0∧IsN w nv x)∨(¬ allowed x∧er=5∧nv=.agg #[.pointer none])
def GiveQ (F:List Nat)(W:World)(x:Int)(e:Ending)(W':World): Prop :=
 ∃ (q:Option Addr) (er:Int),e=.returned (.tuple #[.agg #[.pointer q],.int .i64 er])∧Hid (Fr F W W')∧Hid (NR W' x (.agg #[.pointer q]) er)
variable {x:Int}
theorem form_nil (h:form x=[]): x=0:=by have:=jc x; rw[h] at this; exact this.symm
theorem Fr.setNew {F:List Nat}{W w:World}(h:Fr F W w){a:Addr}(ha:W.heap.size≤a.block)(v:Value): Fr F W (w.setCell a v) :=
 ⟨h.os,h.tape,h.output,by have:=h.size; simpa using this,fun b hb hn=>(jS _ _ _ _ (by intro e; omega)).trans (h.block b hb hn)⟩
def giveX (w3:World): World:=((w3.alloc (.map #[] 0)).alloc (.cells #[.map (some w3.heap.size)] 122)).alloc (.cells #[.slice none 0 0,.slice none 0 0] 158)
theorem giveX_size (w3:World): (giveX w3).heap.size=w3.heap.size+3:=by simp[giveX]
theorem giveX_below (w3:World): Below w3.heap.size w3 (giveX w3):=(((Below.refl _ _).alloc (jR _) _).alloc (by simp) _).alloc (by simp; omega) _
theorem giveX_old (w3:World){b:Nat}(h:b<w3.heap.size): (giveX w3).heap[b]? = w3.heap[b]?:=(giveX_below w3).block b h
theorem giveX_box (w3:World): (giveX w3).heap[w3.heap.size+1]? = some (.cells #[.map (some w3.heap.size)] 122 (0,0)):=by
 unfold giveX; rw[jE _ _ (by simp)];exact j7 (by simp)
theorem giveX_start (w3:World)(vs:List Int)(x:Int): GL (giveX w3) vs x w3.heap.size (w3.heap.size+1+1) 0 (.slice none 0 0) [] (giveX w3):=by
 refine⟨Fr.refl _ _,?_,⟨rfl,.inl ⟨rfl,rfl⟩⟩,fun b h=>(by cases h),fun i q h=>(by omega),⟨fun _=>none,⟨#[],0,?_,by simp,by simp,fun k v=>(by simp)⟩,fun i q h=>(by omega)⟩⟩
 ·unfold giveX; exact j7 (by simp)
 ·unfold giveX; rw[jE _ _ (by simp; omega),jE _ _ (by simp)];exact j7 rfl
theorem give_end {w:World}{b b4:Nat}{ov sv:Value}{fl:List Value}{u:Value}(h1:w.heap[b]? = some (.cells #[ov,.slice none 0 0] 158 (0,0)))(h4:w.heap[b4]? = some (.cells #[.pointer none] 26 (0,0)))(hs:TRow w sv (atPl (Sr.parts x) x))(ho:w.ownsRow 0 111 1 ov (Sr.parts x).length fl) 
 (hr:∀ (i q:Nat),(Sr.parts x)[i]? = some q→∃ u,fl[i]? = some u∧TRow w u (atPl (Sr.parts x) (q:Int))):NB ((w.setCell ⟨b,1,none⟩ sv).setCell ⟨b4,0,none⟩ u) b ov sv fl x:=by
 have ne:b≠b4:=jI h1 h4 (by decide)
 have keep:∀ {g:Nat} {c:Array Value} {T:TypeId},w.heap[g]? = some (.cells c T (0,0))→T≠158→T≠26→((w.setCell ⟨b,1,none⟩ sv).setCell ⟨b4,0,none⟩ u).heap[g]? = w.heap[g]?:=fun {g c T} hg n1 n2 =>
  (jS _ _ _ _ (by show g≠b4; exact jI hg h4 n2)).trans (jS _ _ _ _ (by show g≠b; exact jI hg h1 n1))
 have trow:∀ {v:Value} {l:List PT},TRow w v l→TRow ((w.setCell ⟨b,1,none⟩ sv).setCell ⟨b4,0,none⟩ u) v l:=fun {v l} h=>jJ h fun g e=>by
  obtain⟨c,hc⟩:=jO h e
  exact keep hc (by decide) (by decide)
 refine⟨?_,?_,fun i q hq=>?_,trow hs⟩
 ·rw[jS _ _ _ _ (by show b≠b4; exact ne)]
  exact heap_setCell_same w b 1 _ 158 sv h1
 ·exact jJ ho fun g e=>by
   obtain⟨c,hc⟩:=jO ho e
   exact keep hc (by decide) (by decide)
 ·obtain⟨u',k1,k2⟩:=hr i q hq
  exact⟨u',k1,trow k2⟩
theorem xH {C:List Nat}{W:World}{p:Nat}{F:List Nat}{D:WD}{vs:List Int}{gk:List Nat}{m:Nat}(H:Hid (WO C W p F D vs gk m)){v:Value}(hst:∀ W',WO C W' p F D vs gk m→Fr F W W'→TRow W' v (pf vs x))(hx:∀ e∈exps x,(e:Int)∈vs):
 Calls Tryz.prog 53 #[.pointer (some ⟨p,0,none⟩),v] W (GiveQ F W x):=by
 have hl:=hst W H.out (Fr.refl _ _)
 have HST:Hid (∀ W',WO C W' p F D vs gk m→Fr F W W'→TRow W' v (pf vs x)):=hst
 clear hst
 have HL:=jH hl
 have HX:Hid (∀ e∈exps x,(e:Int)∈vs):=hx
 obtain⟨la,lc,rfl,hlm,_⟩:=hl.shape
 obtain⟨N,hN⟩:∃ N,N=(pf vs x).length:=⟨_,rfl⟩
 have HN:Hid (N=(form x).length):=by show _=_; rw[hN];simp[pf]
 rw[← hN] at HL HST hlm ⊢
 clear hl hx hN
 by_cases h0:N=0
 ·have h0z:((N:Int)==0)=true:=by simp[h0]
  have hx0:x=0:=form_nil (List.length_eq_zero_iff.1 (by rw[← HN.out];exact h0))
  have HX0:=jH hx0
  clear hx0
  go_enter Tryz.func53,Tryz.ntmps53
  go_wp2_with fail
  refine bodyPost_ret (v:=.tuple #[.agg #[.pointer none],.int .i64 0]) (by simp[results,Tryz.results53,go_sem]) rfl ?_
  refine⟨none,0,rfl,Fr.of_below (((Below.refl _ _).alloc (jR _) _).alloc (by simp) _),.inl ⟨?_,rfl,?_⟩⟩
  ·rw[HX0.out];exact jX
  ·rw[HX0.out];exact⟨jX,.inl ⟨rfl,rfl⟩⟩
 ·have h0z:((N:Int)==0)=false:=by simpa using h0
  by_cases h3:N≤300
  ·have h3z:¬ ((300:Int)<(N:Int)):=by omega
   have hmm:=@run_makeMap Tryz.prog
   go_enter Tryz.func53,Tryz.ntmps53
   obtain⟨GBB,GSS,e4⟩:=giveW_base H.out
   have B:=jH GBB
   have S0:=jH GSS
   have E4:=jH e4
   have HL1:Hid (TRow (giveW W p) (.slice la N lc) (pf vs x)):=jK HL.out (giveW_below W p)
   clear GBB GSS e4
   go_wp2_with fail
   clear hmm
   refine (walk_calls B x.natAbs x (jR _) HX.out _ _ _ _ _ _ HL1.out S0).mono ?_
   rintro y w2 ⟨ps,hh,ok,plv,r,rfl,HS,HW,HFE⟩
   clear S0
   have c8:w2.cell? ⟨W.heap.size+1+1+1+1+1,0,none⟩=some (.bool ok):=by rw[jB HS.out.bo];rfl
   have c7:w2.cell? ⟨W.heap.size+1+1+1+1,0,none⟩=some plv:=by rw[jB HS.out.bp];rfl
   have HC2:=jH (B.out.keep HS.out.fr B.out.bw (by decide) (by decide))
   have HC4:=jH (B.out.keep HS.out.fr E4.out (by decide) (by decide))
   have c4:w2.cell? ⟨W.heap.size+1,0,none⟩=some (.pointer none):=by rw[jB HC4.out];rfl
   have f4:w2.frozen? ⟨W.heap.size+1,0,none⟩=false:=jF HC4.out 0
   have c2:w2.cell? ⟨W.heap.size,0,none⟩=some (.pointer (some ⟨p,0,none⟩)):=by rw[jB HC2.out];rfl
   obtain⟨pa,pc,hplv⟩:∃ pa pc,plv=.slice pa ps.length pc:=by
    obtain⟨_,⟨q1,q2⟩ | ⟨g,cap,cur,q1,_⟩⟩:=HS.out.row
    ·rw[List.length_map] at q2; exact⟨none,0,by rw[q1,q2]⟩
    ·rw[List.length_map] at q1; exact⟨_,cap,q1⟩
   subst hplv
   have HVL:vs.length≤2147483648:=H.out.vlen
   have HPB:ps.length≤2147483648:=by
    have:=jT (ps.map fun (e:Nat)=>(e:Int).toNat) (vs.map Int.toNat) (by simpa using HS.out.inv.nodup) (fun y hy=>by
     obtain⟨e',q1,rfl⟩:=List.mem_map.1 hy
     exact List.mem_map.2 ⟨_,HS.out.inv.mem e' q1,rfl⟩)
    simp at this; omega
   have hpw:IntKind.i64.wrap ((ps.length:Int)+1)=(ps.length:Int)+1:=IntWalk.i64_in _ (by omega)
   have HFr:Hid (Fr F W w2):=by
    have h1:=giveW_below W p
    have h2:=HS.out.fr
    refine⟨h2.os.trans h1.os,h2.tape.trans h1.tape,h2.output.trans h1.output,Nat.le_trans h1.size h2.size,fun b hb _=>?_⟩
    rw[h2.block b (by rw[xG];omega) (by simp; omega)]
    exact h1.block b hb
   have HAl:Hid (allowed x↔ok=true∧ps.length+1≤2000∧r≤100):=HW.out.allowed (by rw[← HN.out];exact h3) HS.out.inv
   have HWk:=jH HW.out
   clear HFE HW
   cases ok
   ·have hna:¬ allowed x:=fun h=>by have:=(HAl.out.1 h).1; cases this
    have Hna:=jH hna
    clear hna
    go_wp2_with fail
    refine bodyPost_ret (v:=.tuple #[.agg #[.pointer none],.int .i64 5]) (by simp[results,Tryz.results53,go_sem,c4]) rfl ?_
    exact⟨none,5,rfl,HFr.out.setNew (by simp) _,.inr ⟨Hna.out,rfl,rfl⟩⟩
   ·by_cases h5:ps.length+1≤2000
    ·have h5z:¬ ((2000:Int)<(ps.length:Int)+1):=by omega
     by_cases h6:r≤100
     ·have h6z:¬ ((100:Int)<(r:Int)):=by omega
      have HYes:=jH (HAl.out.2 ⟨rfl,h5,h6⟩)
      have HPs:Hid (∀ e,e∈ps↔e∈Sr.parts x):=HWk.out.parts HS.out.inv rfl
      have HOwn:Hid (∀ b,(Value.slice pa ps.length pc).ownBlock=some b→W.heap.size+7≤b):=fun b e=>by have:=HS.out.own b e; rw[xG] at this; exact this
      have HNF:Hid (∀ b,W.heap.size≤b→b∉F):=fun b hb h=>by have:=H.out.blt b h; omega
      have HSz:Hid (W.heap.size+7≤w2.heap.size):=by have:=HS.out.fr.size; rw[xG] at this; exact this
      have HSort:=sortAny (B.out.wo' HS.out.fr) HS.out.row (fun b e=>HNF.out b (by have:=HOwn.out b e; omega)) (fun i hi=>by
       obtain⟨e,he,rfl⟩:=List.mem_map.1 hi
       exact⟨_,jU (HS.out.inv.mem e he)⟩) (by rw[List.length_map];omega)
      have HC7:=jH HS.out.bp
      go_wp2_with fail
      refine HSort.mono ?_
      rintro y w3 ⟨rfl,ds',hperm,hsrt,HWO3,HR3,HFr3⟩
      clear HSort c8 c7 c4 f4 c2
      have hds:=sorted_places HWO3.out.wv HS.out.inv.nodup HS.out.inv.mem HPs.out hperm.out hsrt.out
      have hmem:∀ e∈Sr.parts x,((e:Nat):Int)∈vs:=fun e he=>HS.out.inv.mem e ((HPs.out e).2 he)
      have HMem:Hid (∀ e∈Sr.parts x,((e:Nat):Int)∈vs):=hmem
      have hlen:ps.length=(Sr.parts x).length:=yQ HS.out.inv.nodup (qE x) HPs.out
      have HLen:Hid (ps.length=(Sr.parts x).length):=hlen
      rw[hds] at HR3
      have HK3:Hid (∀ b,W.heap.size≤b→b<W.heap.size+7→w3.heap[b]? = w2.heap[b]?):=fun b h1 h2=>HFr3.out.block b (by have:=HSz.out; omega) (by
       intro hm
       rcases List.mem_append.1 hm with hm | hm
       ·have:=HOwn.out b (by simpa using hm);omega
       ·exact HNF.out b h1 hm)
      have HFW3:Hid (Fr F W w3):=⟨HFr3.out.os.trans HFr.out.os,HFr3.out.tape.trans HFr.out.tape,HFr3.out.output.trans HFr.out.output,Nat.le_trans HFr.out.size HFr3.out.size,fun b hb hn=>by
       rw[HFr3.out.block b (by have:=HFr.out.size; omega) (by
        intro hm
        rcases List.mem_append.1 hm with hm | hm
        ·have:=HOwn.out b (by simpa using hm);omega
        ·exact hn hm)]
       exact HFr.out.block b hb hn⟩
      have HV3:=jH (HST.out w3 HWO3.out HFW3.out)
      have X2:=jH ((HK3.out W.heap.size (by omega) (by omega)).trans HC2.out)
      have X4:=jH ((HK3.out (W.heap.size+1) (by omega) (by omega)).trans HC4.out)
      have X7:=jH ((HK3.out (W.heap.size+1+1+1+1) (by omega) (by omega)).trans HC7.out)
      have HSz3:Hid (W.heap.size+7≤w3.heap.size):=by have:=HSz.out; have:=HFr3.out.size; show _≤_; omega
      have c7:(((w3.alloc (.map #[] 0)).alloc (.cells #[.map (some w3.heap.size)] 122)).alloc (.cells #[.slice none 0 0,.slice none 0 0] 158)).cell? ⟨W.heap.size+1+1+1+1,0,none⟩=some (.slice pa ps.length pc):=by
       have:=HSz3.out
       show (giveX w3).cell? _=_
       rw[jB ((giveX_old w3 (by omega)).trans X7.out)];rfl
      clear hperm hsrt hds hmem hlen HFr3 HK3 HC7 HC2 HC4 HFr HS
      have hmm:=@run_makeMap Tryz.prog
      go_wp2_with fail
      clear hmm
      have S0:=jH (giveX_start w3 vs x)
      obtain⟨w4,hw4⟩:∃ w4,w4=giveX w3:=⟨_,rfl⟩
      have HW4:Hid (w4=giveX w3):=hw4
      rw[show (((w3.alloc (.map #[] 0)).alloc (.cells #[.map (some w3.heap.size)] 122)).alloc (.cells #[.slice none 0 0,.slice none 0 0] 158))=w4 from hw4.symm]
      rw[← hw4] at S0
      have hz4:w3.heap.size+3=w4.heap.size:=by rw[hw4,giveX_size]
      have HB4:Hid (Below w3.heap.size w3 w4):=by show Below _ _ _; rw[hw4];exact giveX_below w3
      have X11:Hid (w4.heap[w3.heap.size+1]? = some (.cells #[.map (some w3.heap.size)] 122 (0,0))):=by show _=_; rw[hw4];exact giveX_box w3
      clear c7 hw4
      obtain⟨n,hn⟩:∃ n,n=ps.length:=⟨_,rfl⟩
      have HNp:Hid (n=(Sr.parts x).length):=hn.trans HLen.out
      have hnb:n≤1999:=by omega
      have HR3':Hid (IRow w3 (.slice pa n pc) ((Sr.parts x).map fun (e:Nat)=>vs.idxOf (e:Int))):=by rw[hn];exact HR3.out
      rw[← hn]
      clear hn HR3 h5 h5z hpw HPB HAl
      go_loopg [52] n (fun g1 vi wr=>∃ (k:Nat) (ov:Value) (fl:List Value),vi=.int .i64 k∧k≤n∧n - k≤g1∧Hid (GL w4 vs x w3.heap.size (w3.heap.size+1+1) k ov fl wr))
      case atStart=>exact⟨0,_,[],rfl,by omega,by omega,S0⟩
      case round =>
       clear S0
       obtain⟨k,ov,fl,rfl,hkl,hg,HS⟩:=hrel
       by_cases hk:k<n
       ·have hkz:(k:Int)<(n:Int):=by omega
        have hk0:(0:Int)≤(k:Int):=Int.natCast_nonneg k
        have hkw:IntKind.i64.wrap ((k:Int)+1)=(k:Int)+1:=IntWalk.i64_in _ (by omega)
        have hsz4:=HS.out.fr.size
        have h73:=HSz3.out
        obtain⟨q,hq⟩:∃ q,(Sr.parts x)[k]? = some q:=⟨_,jG (by rw[← HNp.out];exact hk)⟩
        have hqm:=jM hq
        have hqv:=HMem.out q hqm
        obtain⟨W5,hrun,s5,k5,hmap5,hfin⟩:=HS.out.step HVL hq HMem.out (by omega) (by omega)
        have keep5:∀ b,b<w3.heap.size→W5.heap[b]? = w3.heap[b]?:=fun b hb=>(k5 b (by omega)).trans ((HS.out.keep (by omega) (by omega) (by omega)).trans (HB4.out.block b hb))
        have hir:IRow wr (.slice pa n pc) ((Sr.parts x).map fun (e:Nat)=>vs.idxOf (e:Int)):=jJ HR3'.out fun b e=>by
         have:=jP HR3'.out e
         exact (HS.out.keep (by omega) (by omega) (by omega)).trans (HB4.out.block b this)
        obtain⟨gp,cp,heq,cq⟩:=qS (k:=k) (x:=.int .i64 (vs.idxOf (q:Int):Nat)) hir (by rw[List.map_map,List.getElem?_map,hq];rfl)
        obtain⟨e1,e2,e3⟩:=Value.slice.inj heq
        subst e1
        clear e2 e3 heq hir
        have WO5:=HWO3.out.kept (W':=W5) (fun b hb=>keep5 b (HWO3.out.blt b hb))
        have box11:W5.drew.heap[w3.heap.size+1]? = some (.cells #[.map (some w3.heap.size)] 122 (0,0)):=(k5 _ (by omega)).trans ((HS.out.keep (by omega) (by omega) (by omega)).trans X11.out)
        have c11:wr.cell? ⟨w3.heap.size+1,0,none⟩=some (.map (some w3.heap.size)):=by rw[jB ((HS.out.keep (by omega) (by omega) (by omega)).trans X11.out)];rfl
        have o13:W5.heap[w3.heap.size+1+1]? = some (.cells #[ov,.slice none 0 0] 158 (0,0)):=(k5 _ (by omega)).trans HS.out.obj
        have HO13:=jH o13
        have c13:W5.cell? ⟨w3.heap.size+1+1,0,none⟩=some ov:=by rw[jB o13];rfl
        have c2:W5.cell? ⟨W.heap.size,0,none⟩=some (.pointer (some ⟨p,0,none⟩)):=by rw[jB ((keep5 _ (by omega)).trans X2.out)];rfl
        obtain⟨gf,cf,hfv,hgF,hrow⟩:=WO5.formAt
        have hga:=jU hqv
        have hal:=zR hqv
        obtain⟨a,ha⟩:∃ a,a=vs.idxOf (q:Int):=⟨_,rfl⟩
        rw[← ha] at hga hal cq hrun
        have HA:Hid (a=vs.idxOf (q:Int)):=ha
        obtain⟨rv,_,crv,rrv,_⟩:=hrow a q hga
        have cp0:=WO5.c0
        rw[hfv] at cp0
        have a0:(0:Int)≤(a:Int):=by omega
        have az:(a:Int)<(vs.length:Int):=by omega
        obtain⟨f5,M5,hf5⟩:=hmap5
        have HP:=placedM_calls (W:=W5.drew) (bp:=w3.heap.size+1) (mb:=w3.heap.size) (v:=rv) (l:=pf vs (q:Int)) (G:=gi vs x) box11 (M5.kept rfl) rrv (GL.places (w':=W5) HWO3.out.wv HVL HMem.out hf5 (fun e he=>by
         have:=xF hq e he
         rw[j8 hq];exact List.mem_append.2 (.inl this))) (by have:=HYes.out.2.1 q hqm; simp[pf];omega)
        rw[repl_gi (fun e he=>HMem.out e (mem_parts.2 (.step (mem_parts.1 hqm) he)))] at HP
        have HFin:=jH hfin
        have HOv:Hid (W5.ownsRow 0 111 1 ov k fl):=jJ HS.out.orow fun b e=>k5 b (by
         obtain⟨f0,m0,_⟩:=HS.out.map
         obtain⟨c,hc⟩:=jO HS.out.orow e
         exact qD ⟨_,_,_,hc⟩ m0)
        have l13:w3.heap.size+1+1<W5.heap.size:=by omega
        have hkb:k+1≤1099511627776:=by omega
        clear hq hqm hqv keep5 k5 hfin WO5 box11 o13 hrow hga hal ha rrv M5 hf5 hfv hgF
        go_wp2_with fail
        go_region_law (first
         | (refine step_F1 rfl (.tmp 64) (.tmp 74) rfl ov k fl rfl (World.ownsRow.alloc HOv6.out _) _ (.slice ua nq uc) rfl rfl (jD _ _) hkb _ rfl ?_; intro g cap w7 I7 G7 A7 L7
            obtain⟨c7,f7,hgl⟩:=HFin.out w6 w7 _ _ g cap HB6.out HU6.out I7 G7 (by simpa using A7)
            have HGL:=jH hgl
            clear I7 G7 A7 L7 hgl)
         | (go_simp; go_at_call 97; refine HP.mono ?_; rintro y w6 ⟨u0,rfl,hu6,hb6,ho6⟩
            obtain⟨ua,uc,rfl,_,_⟩:=hu6.out.shape
            have HU6:=jH hu6.out
            obtain⟨nq,hnq⟩:∃ nq,nq=(atPl (Sr.parts x) (q:Int)).length:=⟨_,rfl⟩
            rw[← hnq] at HU6
            rw[← hnq]
            have HB6:Hid (Below W5.heap.size W5 w6):=⟨hb6.out.os,hb6.out.tape,hb6.out.output,hb6.out.size,hb6.out.block⟩
            have HOv6:Hid (w6.ownsRow 0 111 1 ov k fl):=jK HOv.out HB6.out
            have c13w:w6.cell? ⟨w3.heap.size+1+1,0,none⟩=some ov:=by rw[jB ((HB6.out.block _ l13).trans HO13.out)];rfl
            have c13a:∀ o,(w6.alloc o).cell? ⟨w3.heap.size+1+1,0,none⟩=some ov:=fun o=>by rw[jB ((jE _ _ (by have:=HB6.out.size; omega)).trans ((HB6.out.block _ l13).trans HO13.out))];rfl
            clear hu6 hb6 ho6 hnq))
        all_goals
         clear HU6 HB6 HOv6 c13w c13a HFin HOv HO13 HP c13 c2 c11 cp0 crv c7 f7
         go_wp2_with fail
         go_roundg (n - (k+1))
         case measure=>omega
         case rel=>exact⟨k+1,_,_,by go_num,by omega,by omega,HGL⟩
       ·have hkz:¬ ((k:Int)<(n:Int)):=by omega
        have hsz4:=HS.out.fr.size
        have h73:=HSz3.out
        have hkn:k=(Sr.parts x).length:=by have:=HNp.out; omega
        have keepr:∀ b,b<w3.heap.size→wr.heap[b]? = w3.heap[b]?:=fun b hb=>(HS.out.keep (by omega) (by omega) (by omega)).trans (HB4.out.block b hb)
        obtain⟨fr,Mr,hfr⟩:=HS.out.map
        have box11:wr.heap[w3.heap.size+1]? = some (.cells #[.map (some w3.heap.size)] 122 (0,0)):=(HS.out.keep (by omega) (by omega) (by omega)).trans X11.out
        have hv:TRow wr (.slice la N lc) (pf vs x):=jJ HV3.out fun b e=>keepr b (jP HV3.out e)
        have HP:=placedM_calls (W:=wr) (bp:=w3.heap.size+1) (mb:=w3.heap.size) (v:=.slice la N lc) (l:=pf vs x) (G:=gi vs x) box11 Mr hv (GL.places (w':=wr) HWO3.out.wv HVL HMem.out hfr (fun e he=>by
         rw[hkn,List.take_length];exact mem_parts.2 (.here he))) (by have:=HYes.out.1; simp[pf];omega)
        rw[repl_gi (fun e he=>HMem.out e (mem_parts.2 (.here he)))] at HP
        have X4r:=jH ((keepr (W.heap.size+1) (by omega)).trans X4.out)
        have l13:w3.heap.size+1+1<wr.heap.size:=by omega
        have hkn':=jH hkn
        clear keepr Mr hfr box11 hv hkn
        go_wp2_with fail
        refine HP.mono ?_
        rintro y w8 ⟨u0,rfl,hu8,hb8,ho8⟩
        obtain⟨ua,uc,rfl,_,_⟩:=hu8.out.shape
        have HO8:=jH ((hb8.out.block _ l13).trans HS.out.obj)
        have HX8:=jH ((hb8.out.block _ (by omega)).trans X4r.out)
        have c13:w8.cell? ⟨w3.heap.size+1+1,1,none⟩=some (.slice none 0 0):=by rw[jB HO8.out];rfl
        have f13:w8.frozen? ⟨w3.heap.size+1+1,1,none⟩=false:=jF HO8.out 1
        have c4:w8.cell? ⟨W.heap.size+1,0,none⟩=some (.pointer none):=by rw[jB HX8.out];rfl
        have f4:w8.frozen? ⟨W.heap.size+1,0,none⟩=false:=jF HX8.out 0
        have n413:W.heap.size+1≠w3.heap.size+1+1:=by omega
        clear HP
        go_wp2_with fail
        refine bodyPost_ret (v:=.tuple #[.agg #[.pointer (some ⟨w3.heap.size+1+1,0,none⟩)],.int .i64 0]) (by simp[results,Tryz.results53,go_sem,c4]) rfl ?_
        have hb8':=hb8.out
        have hs8:=hb8'.size
        refine⟨some ⟨w3.heap.size+1+1,0,none⟩,0,rfl,?_,.inl ⟨HYes.out,rfl,HYes.out,.inr ⟨fun h=>?_,w3.heap.size+1+1,ov,.slice ua (atPl (Sr.parts x) x).length uc,fl,rfl,?_⟩⟩⟩
        ·have h1:Fr F W w8:=by
          have f0:=HFW3.out
          have f1:=HB4.out
          have f2:=HS.out.fr
          have s0:=f0.size
          refine⟨hb8'.os.trans (f2.os.trans (f1.os.trans f0.os)),hb8'.tape.trans (f2.tape.trans (f1.tape.trans f0.tape)),hb8'.output.trans (f2.output.trans (f1.output.trans f0.output)),by omega,fun b hb hn=>?_⟩
          rw[hb8'.block b (by omega),f2.block b (by omega) (by simp; omega),f1.block b (by omega)]
          exact f0.block b hb hn
         exact (h1.setNew (by show W.heap.size≤w3.heap.size+1+1; omega) _).setNew (by show W.heap.size≤W.heap.size+1; omega) _
        ·have:=HN.out
         rw[h,j5] at this
         exact h0 this
        ·refine give_end HO8.out HX8.out hu8.out (by rw[← hkn'.out];exact jK HS.out.orow hb8') (fun i q hq=>?_)
         obtain⟨u,h1,h2⟩:=HS.out.rows i q (by rw[hkn'.out];exact (jL hq).1) hq
         exact⟨u,h1,jK h2 hb8'⟩
     ·have h6z:(100:Int)<(r:Int):=by omega
      have hna:¬ allowed x:=fun h=>h6 (HAl.out.1 h).2.2
      have Hna:=jH hna
      clear hna
      go_wp2_with fail
      refine bodyPost_ret (v:=.tuple #[.agg #[.pointer none],.int .i64 5]) (by simp[results,Tryz.results53,go_sem,c4]) rfl ?_
      exact⟨none,5,rfl,HFr.out.setNew (by simp) _,.inr ⟨Hna.out,rfl,rfl⟩⟩
    ·have h5z:(2000:Int)<(ps.length:Int)+1:=by omega
     have hna:¬ allowed x:=fun h=>h5 (HAl.out.1 h).2.1
     have Hna:=jH hna
     clear hna
     go_wp2_with fail
     refine bodyPost_ret (v:=.tuple #[.agg #[.pointer none],.int .i64 5]) (by simp[results,Tryz.results53,go_sem,c4]) rfl ?_
     exact⟨none,5,rfl,HFr.out.setNew (by simp) _,.inr ⟨Hna.out,rfl,rfl⟩⟩
  ·have h3z:(300:Int)<(N:Int):=by omega
   go_enter Tryz.func53,Tryz.ntmps53
   go_wp2_with fail
   refine bodyPost_ret (v:=.tuple #[.agg #[.pointer none],.int .i64 5]) (by simp[results,Tryz.results53,go_sem]) rfl ?_
   refine⟨none,5,rfl,Fr.of_below (((Below.refl _ _).alloc (jR _) _).alloc (by simp) _),.inr ⟨fun ha=>?_,rfl,rfl⟩⟩
   have:=ha.1; have:=HN.out; omega
end
section
noncomputable def covC (xs:List Int): List Nat:=(baseOf xs).flatMap fun q=>(List.range 4097).map (q+·)
theorem covC_len {xs:List Int}(h:∀ x∈xs,allowed x): (covC xs).length≤(615+2000*xs.length)*4097:=by
 have h1:=baseOf_len h
 have key:∀ l:List Nat,(l.flatMap fun q=>(List.range 4097).map (q+·)).length=l.length*4097:=by
  intro l
  induction l with
  | nil=>rfl
  | cons a l ih=>rw[List.flatMap_cons,List.length_append,ih];simp; omega
 unfold covC
 rw[key]
 exact Nat.mul_le_mul_right _ h1
theorem covC_cov (xs:List Int): ∀ q∈baseOf xs,∀ j,j≤4096→q+j∈covC xs:=fun q hq j hj =>
 List.mem_flatMap.2 ⟨q,hq,List.mem_map.2 ⟨j,List.mem_range.2 (by omega),rfl⟩⟩
structure Room (C:List Nat): Prop where
 le:C.length≤20000000
variable {x:Int} {w w' W:World} {v:Value}
theorem cov_two {y:Int}(hx:allowed x)(hy:allowed y): Cov (baseOf [x,y]) (covC [x,y]) 6000∧Room (covC [x,y]):=by
 have h:∀ z∈[x,y],allowed z:=by simp[hx,hy]
 have hl:(covC [x,y]).length≤20000000:=Nat.le_trans (covC_len h) (by simp)
 exact⟨⟨base_parts h,covC_cov _,by omega⟩,⟨hl⟩⟩
theorem Cov.weak {P C:List Nat}{m m':Nat}(h:Cov P C m)(hm:m'≤m:=by omega): Cov P C m':=⟨h.base,h.cov,by have:=h.room; omega⟩
def NQ (z:Int)(W:World)(e:Ending)(W':World): Prop :=
 ∃ (q:Option Addr) (er:Int),e=.returned (.tuple #[.agg #[.pointer q],.int .i64 er])∧Hid (Below W.heap.size W W')∧Hid (NR W' z (.agg #[.pointer q]) er)
theorem own2 {B:Nat}{a b:Value}(h:w.heap[B]? = some (.cells #[a,b] 111 (0,0))): w.ownsRow 0 111 1 (.slice (some ⟨B,0,none⟩) 2 2) 2 [a,b] :=
 ⟨rfl,.inr ⟨B,2,_,rfl,Nat.zero_le _,h,jR _,by decide,rfl,rfl⟩⟩
theorem pf_base {xs:List Int}{vs:List Int}(hx:x∈xs)(hm:∀ e∈exps x,(e:Int)∈vs): ∀ t∈pf vs x,∃ e:Nat,vs[t.2]? = some (e:Int)∧e∈baseOf xs:=fun t ht=>by
 obtain⟨u,hu,rfl⟩:=List.mem_map.1 ht
 exact⟨u.2,jU (hm u.2 (mem_exps hu)),yX hx u.2 (mem_exps hu)⟩
theorem NB.kept {b:Nat}{pv sv:Value}{fl:List Value}(h:NB w b pv sv fl x)(hk:∀ (b:Nat) (c:Array Value) (T:TypeId),w.heap[b]? = some (.cells c T (0,0))→(T=158∨T=111∨T=154)→w'.heap[b]? = w.heap[b]?): NB w' b pv sv fl x where
 obj:=(hk _ _ _ h.obj (.inl rfl)).trans h.obj
 parts:=jJ h.parts fun g e=>by obtain⟨c,hc⟩:=jO h.parts e; exact hk _ _ _ hc (.inr (.inl rfl))
 rows:=fun i p hi=>by
  obtain⟨u,h1,h2⟩:=h.rows i p hi
  exact⟨u,h1,jJ h2 fun g e=>by obtain⟨c,hc⟩:=jO h2 e; exact hk _ _ _ hc (.inr (.inr rfl))⟩
 self:=jJ h.self fun g e=>by obtain⟨c,hc⟩:=jO h.self e; exact hk _ _ _ hc (.inr (.inr rfl))
theorem IsN.kept {w w':World}{v:Value}{x:Int}(h:IsN w v x)(hk:∀ (b:Nat) (c:Array Value) (T:TypeId),w.heap[b]? = some (.cells c T (0,0))→(T=158∨T=111∨T=154)→w'.heap[b]? = w.heap[b]?): IsN w' v x:=by
 obtain⟨h0,h1 | ⟨h1,b,pv,sv,fl,h2,h3⟩⟩:=h
 ·exact⟨h0,.inl h1⟩
 ·exact⟨h0,.inr ⟨h1,b,pv,sv,fl,h2,h3.kept hk⟩⟩
theorem IsN.setCell {w:World}{v:Value}{x:Int}(h:IsN w v x){b o:Nat}{c:Array Value}{T:TypeId}{z:Nat×Nat}(hb:w.heap[b]? = some (.cells c T z))(hT:T≠158∧T≠111∧T≠154)(u:Value): IsN (w.setCell ⟨b,o,none⟩ u) v x :=
 h.kept fun g c' T' hg ht=>jS _ _ _ _ (by
  show g≠b
  refine jI hg hb ?_
  rintro rfl
  rcases ht with ht | ht | ht
  ·exact hT.1 ht
  ·exact hT.2.1 ht
  ·exact hT.2.2 ht)
theorem NR.setCell {w:World}{v:Value}{x er:Int}(h:NR w x v er){b o:Nat}{c:Array Value}{T:TypeId}{z:Nat×Nat}(hb:w.heap[b]? = some (.cells c T z))(hT:T≠158∧T≠111∧T≠154)(u:Value): NR (w.setCell ⟨b,o,none⟩ u) x v er:=by
 rcases h with ⟨h1,h2,h3⟩ | h
 ·exact .inl ⟨h1,h2,h3.setCell hb hT u⟩
 ·exact .inr h
theorem NR.drew {w:World}{v:Value}{x er:Int}(h:NR w x v er): NR w.drew x v er:=by
 rcases h with ⟨h1,h2,h3⟩ | h
 ·exact .inl ⟨h1,h2,h3.kept fun _ _ _ _ _=>rfl⟩
 ·exact .inr h
theorem Below.trans' (h:Below W.heap.size W w)(k:Below w.heap.size w w'): Below W.heap.size W w':=qL (F:=[]) h (by simp) (Fr.of_below k)
theorem wt_new {C:List Nat}{p:Nat}{F:List Nat}{D:WD}{vs:List Int}{gk:List Nat}{m:Nat}(h:WO C w p F D vs gk m)(k:FE [] W F w): Wt C W w p F D vs gk m :=
 ⟨h,⟨k.fr.os,k.fr.tape,k.fr.output,k.fr.size,fun b hb=>k.fr.block b hb (by simp)⟩,fun b hb=>by
  rcases k.sub b hb with h | h
  ·simp at h
  ·exact h⟩
theorem IsN.ptr (h:IsN w v x): ∃ q,v=.agg #[.pointer q]:=by
 obtain⟨_,⟨_,rfl⟩ | ⟨_,b,_,_,_,rfl,_⟩⟩:=h
 ·exact⟨_,rfl⟩
 ·exact⟨_,rfl⟩
theorem yE {u:Value}{y:Int}(hx:IsN W v x)(hy:IsN W u y): Calls Tryz.prog 101 #[v,u] W (NQ (x+y) W):=by
 obtain⟨qx,rfl⟩:=hx.ptr
 obtain⟨qy,rfl⟩:=hy.ptr
 obtain⟨hcov,hcl⟩:=cov_two hx.1 hy.1
 have HX:=jH hx
 have HY:=jH hy
 have HCov:=jH hcov
 have HCl:=jH hcl
 clear hx hy hcov hcl
 go_enter Tryz.func101,Tryz.ntmps101
 go_wp2_with fail
 obtain⟨W0,hW0⟩:∃ W0,W0=((W.alloc (.cells #[.pointer qx] 26)).alloc (.cells #[.pointer qy] 26)).alloc (.cells #[.pointer none] 26):=⟨_,rfl⟩
 rw[← hW0]
 have HB0:Hid (Below W.heap.size W W0):=by show Below _ _ _; rw[hW0];exact (((Below.refl _ _).alloc (jR _) _).alloc (by simp) _).alloc (by simp; omega) _
 have hz0:W.heap.size+3=W0.heap.size:=by rw[hW0];simp
 have X0:Hid (W0.heap[W.heap.size]? = some (.cells #[.pointer qx] 26 (0,0))):=by show _=_; rw[hW0,jE _ _ (by simp; omega),jE _ _ (by simp)];exact j7 rfl
 have X1:Hid (W0.heap[W.heap.size+1]? = some (.cells #[.pointer qy] 26 (0,0))):=by show _=_; rw[hW0,jE _ _ (by simp)];exact j7 (by simp)
 have X2:Hid (W0.heap[W.heap.size+1+1]? = some (.cells #[.pointer none] 26 (0,0))):=by show _=_; rw[hW0];exact j7 (by simp)
 clear hW0
 have HN:=zc (covC [x,y]) (by have:=HCl.out.le; omega) W0
 refine HN.mono ?_
 rintro e w1 ⟨p,F,D,rfl,HWO,HFE⟩
 clear HN
 have HT1:=jH (wt_new HWO.out HFE.out)
 have c0:w1.cell? ⟨W.heap.size,0,none⟩=some (.pointer qx):=by rw[jB ((HT1.out.low.block _ (by omega)).trans X0.out)];rfl
 clear HWO HFE
 go_wp2_with fail
 refine (zn HT1 (HX.out.below HB0.out) (by have:=HCl.out.le; omega)).mono ?_
 rintro e w2 ⟨F2,D2,vs2,rfl,hxm,hpre2,HT2,_⟩
 have c1:w2.cell? ⟨W.heap.size+1,0,none⟩=some (.pointer qy):=by rw[jB ((HT2.out.low.block _ (by omega)).trans X1.out)];rfl
 clear c0 HT1 hpre2
 go_wp2_with fail
 refine (zn HT2 (HY.out.below HB0.out) (by have:=HCl.out.le; omega)).mono ?_
 rintro e w3 ⟨F3,D3,vs3,rfl,hym,hpre3,HT3,_⟩
 have hxi:=zV hpre3.out hxm.out
 have HXm:Hid (x∈vs3):=qN hpre3.out hxm.out
 rw[← hxi]
 clear c1 HT2 hpre3 hxm hxi
 obtain⟨a,ha⟩:∃ a,a=vs3.idxOf x:=⟨_,rfl⟩
 obtain⟨b,hb⟩:∃ b,b=vs3.idxOf y:=⟨_,rfl⟩
 rw[← ha,← hb]
 obtain⟨gf,cf,hfv,hgF,hrow⟩:=HT3.out.wo.formAt
 obtain⟨ra,_,cra,rra,_⟩:=hrow a x (by rw[ha];exact jU HXm.out)
 obtain⟨rb,_,crb,rrb,_⟩:=hrow b y (by rw[hb];exact jU hym.out)
 have cp0:=HT3.out.wo.c0
 rw[hfv] at cp0
 have hal:(a:Int)<(vs3.length:Int):=by have:=zR HXm.out; omega
 have hbl:(b:Int)<(vs3.length:Int):=by have:=zR hym.out; omega
 have a0:(0:Int)≤(a:Int):=by omega
 have b0:(0:Int)≤(b:Int):=by omega
 have Hlen:Hid ((pf vs3 x).length≤300∧(pf vs3 y).length≤300):=⟨by have:=HX.out.1.1; simpa [pf] using this,by have:=HY.out.1.1; simpa [pf] using this⟩
 obtain⟨pa,ca,rfl,_,_⟩:=rra.shape
 obtain⟨pb,cb,rfl,_,_⟩:=rrb.shape
 obtain⟨na,hna⟩:∃ na,na=(pf vs3 x).length:=⟨_,rfl⟩
 obtain⟨nb,hnb⟩:∃ nb,nb=(pf vs3 y).length:=⟨_,rfl⟩
 rw[← hna] at cra rra
 rw[← hnb] at crb rrb
 have Hra:=jH rra
 have Hrb:=jH rrb
 clear hrow rra rrb hgF hfv ha hb hna hnb
 go_wp2_with fail
 have HC1:=concat_calls (W:=(w3.alloc (.cells #[.slice pa na ca,.slice pb nb cb] 111)).drew) (v:=.slice (some ⟨w3.heap.size,0,none⟩) 2 2) (ls:=[(.slice pa na ca,pf vs3 x),(.slice pb nb cb,pf vs3 y)]) (own2 (jD w3 _))
  (by intro z hz; simp at hz; rcases hz with rfl | rfl; exact World.ownsRow.alloc Hra.out _; exact World.ownsRow.alloc Hrb.out _) (by have:=Hlen.out; simp[lens];omega) (by simp)
 have HXe:Hid (∀ e∈exps x,(e:Int)∈vs3):=fun e he=>HT3.out.wo.wv.mem_exps HXm.out he
 have HYe:Hid (∀ e∈exps y,(e:Int)∈vs3):=fun e he=>HT3.out.wo.wv.mem_exps hym.out he
 have Hptv:Hid (ptv vs3 (pf vs3 x++pf vs3 y)=x+y):=by show _=_; rw[ptv_append,ptv_pf HT3.out.wo.wv HXe.out,ptv_pf HT3.out.wo.wv HYe.out]
 go_region_with (first
  | (go_at_call 105
     refine HC1.mono ?_
     rintro e w5 ⟨v5,rfl,hr5,hb5,ho5⟩
     have HR5:Hid (TRow w5 v5 (pf vs3 x++pf vs3 y)):=by have:=hr5.out; show TRow _ _ _; simpa using this
     have HWO5:=(HT3.out.wo.alloc (.cells #[.slice pa na ca,.slice pb nb cb] 111)).drew.below hb5.out
     have HL5:=jH (Below.trans' (HT3.out.low.alloc HT3.out.low.size (.cells #[.slice pa na ca,.slice pb nb cb] 111)).drew hb5.out)
     have HS:=wsum_calls HCov.out.weak HWO5 HR5.out (by have:=Hlen.out; rw[List.length_append];omega) (fun t ht=>by
      rcases List.mem_append.1 ht with ht | ht
      ·exact pf_base (by simp) HXe.out t ht
      ·exact pf_base (by simp) HYe.out t ht)
     rw[Hptv.out] at HS
     clear hr5 hb5 ho5 HWO5 HR5)
  | (go_at_call 104
     refine HS.mono ?_
     rintro e w6 ⟨F6,D6,vs6,gk6,v6,rfl,hr6,he6,ho6,hg6⟩
     have HL6:=jH (qL HL5.out HT3.out.hi hg6.out.fe.fr)
     have Hi6:Hid (∀ b∈F6,W0.heap.size≤b):=fun b hb=>by
      rcases hg6.out.fe.sub b hb with h | h
      ·exact HT3.out.hi b h
      ·have:=HL5.out.size; omega
     have HG:=xH (jH hg6.out.wo) (v:=v6) (x:=x+y) (fun W' _ hf=>jJ hr6.out fun b e=>hf.block b (jP hr6.out e) (ho6.out b e).2) he6.out
     clear hr6 he6 ho6 hg6 HS)
  | (go_at_call 53
     refine HG.mono ?_
     rintro e w7 ⟨q,er,rfl,hf7,hn7⟩
     have HL7:=jH (qL HL6.out Hi6.out hf7.out)
     have HX7:=jH ((HL7.out.block _ (by omega)).trans X2.out)
     have c4:w7.cell? ⟨W.heap.size+1+1,0,none⟩=some (.pointer none):=by rw[jB HX7.out];rfl
     have f4:w7.frozen? ⟨W.heap.size+1+1,0,none⟩=false:=jF HX7.out 0
     clear HG hf7))
 all_goals
  clear HC1
  go_wp2_with fail
  refine bodyPost_ret (v:=.tuple #[.agg #[.pointer q],.int .i64 er]) (by simp[results,Tryz.results101,go_sem,c4]) rfl ?_
  refine⟨q,er,rfl,(Below.trans' HB0.out HL7.out).setCell (by show W.heap.size≤W.heap.size+1+1; omega) _,hn7.out.setCell HX7.out (by decide) _⟩
end
end Sr
