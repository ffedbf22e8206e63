/-
  Part of the proof: Tear0 CusT ShelfW Idx Clt. No condition.
-/
import Derived.Test.YtikedhemjoljpaaGreatDoorG1
import Derived.Maps.RangeWalk
import Derived.Laws.IdiomRangeMap
import Derived.WalkKit
import Derived.Lib.Walk
import Derived.Lib.SliceRun
import Derived.Carry
import Derived.Deep.RegionLaw
import Derived.Deep.LoopGhost
import Derived.RegionTactic
import Derived.Shelf.RegionOpenPlain
import Derived.Shelf.Strings.Search2
import Derived.Test.YtikedhemjoljpaaGreatDoorProg
import Derived.Test.YtikedhemjoljpaaGreatDoorEnv
namespace Go.Proofs.YtikedhemjoljpaaGreatDoor
open Go Go.Eng Go.RowKit Go.Shelf Go.Lib Go.Maps
open Go.ChangeMaps (setBlock)
set_option maxRecDepth 1000000
set_option maxHeartbeats 4000000
theorem step_mapUpdate_run {P:Program} {ops:Array Oper} {o:Oper} {a:Act} {w:World} {K:Act→World→Prop} {Q:Exit→Act→World→Prop} {E:Prop}
  (hg:o.guard=none) (m x v:Operand) (t:TypeId) (hop:o.op=Op.mapUpdate t m x v) (mv kv vv:Value) (hm:a.eval m=mv) (hx:a.eval x=kv) (hv:a.eval v=vv) {w':World} (hr:(Instr.mapUpdate t mv kv vv).run P w=.ok () w')
  (hK:K (a.put o.dst undef) w'):if Region.wanted o (yielded ops a.tmps)=true then Oper.wp P o a w K Q else E:=by
 have hw:Region.wanted o (yielded ops a.tmps)=true:=by simp[Region.wanted,hg]
 rw[if_pos hw];unfold Oper.wp;simp[execOp,hop,hm,hx,hv,hr,Result.andThen];exact hK
def tearL (n:Int) (sz p:Nat):Nat:=if 0<n then p+(n.toNat%(sz-p+1)) else p
def tearV (n:Int) (v:Value):Nat×Option Value:=
 match v with
 | .agg a=>match a.toList with
   |[.string s,.int .i64 (.ofNat p),.bool kp]=>(s.size-tearL n s.size p,bif Nat.blt 0 (tearL n s.size p)||kp then some (.agg #[.string (s.extract 0 (tearL n s.size p)),.int .i64 (tearL n s.size p),.bool true]) else none)
   |_=>(0,none)
 |_=>(0,none)
def tearAdd (n:Int):List MapEntry→Nat
 |[]=>0
 |e::l=>(tearV n e.val).1+tearAdd n l
def tearStep (n:Int) (acc:List MapEntry) (e:MapEntry):List MapEntry:=
 match(tearV n e.val).2 with
 |some v=>acc++[⟨e.key,v,acc.length⟩]
 |none=>acc
def tearOut (n:Int) (l:List MapEntry):List MapEntry:=l.foldl (tearStep n) []
theorem tearL_le {n:Int} {sz p:Nat} (h:p≤sz):tearL n sz p≤sz:=by
 unfold tearL
 split
 ·have:=Nat.mod_lt n.toNat (show 0<sz-p+1 by omega);omega
 ·exact h
structure TearI (w:World) (mb:Nat) (es:Array MapEntry) (clk:Nat) (room n:Int) (V:List MapEntry) (wr:World):Prop where
 size:w.heap.size+3≤wr.heap.size
 old:∀b,b<w.heap.size→wr.heap[b]?=w.heap[b]?
 os:wr.os=w.os
 out:wr.output=w.output
 mp:wr.heap[w.heap.size]?=some (.map (tearOut n V).toArray (tearOut n V).length)
 row:wr.heap[w.heap.size+1]?=some (.cells #[.int .i64 (room+tearAdd n V),.map (some w.heap.size)] 157 (0,0))
 it:∃c0,clk≤c0∧wr.heap[w.heap.size+2]?=some (.mapIter (some mb) clk (V.map MapEntry.born).toArray c0)
theorem alloc_old (w:World) (o:Obj) {b:Nat} (h:b<w.heap.size):(w.alloc o).heap[b]?=w.heap[b]?:=by
 show(w.heap.push o)[b]?=_;rw[Array.getElem?_push,if_neg (by omega)]
theorem alloc_new (w:World) (o:Obj) {b:Nat} (h:b=w.heap.size):(w.alloc o).heap[b]?=some o:=by
 subst h;show(w.heap.push o)[w.heap.size]?=_;rw[Array.getElem?_push,if_pos rfl]
theorem alloc_size (w:World) (o:Obj):(w.alloc o).heap.size=w.heap.size+1:=by
 show(w.heap.push o).size=_;simp
theorem tearOut_snoc (n:Int) (V:List MapEntry) (e:MapEntry):tearOut n (V++[e])=tearStep n (tearOut n V) e:=by
 unfold tearOut;rw[List.foldl_append];rfl
theorem tearAdd_append (n:Int) (V U:List MapEntry):tearAdd n (V++U)=tearAdd n V+tearAdd n U:=by
 induction V with
 |nil=>simp[tearAdd]
 |cons a V ih=>simp only[List.cons_append,tearAdd,ih];omega
theorem tearAdd_perm {n:Int} {V U:List MapEntry} (h:V.Perm U):tearAdd n V=tearAdd n U:=by
 induction h with
 |nil=>rfl
 |cons a _ ih=>simp only[tearAdd,ih]
 |swap a b l=>simp only[tearAdd];omega
 |trans _ _ h1 h2=>exact h1.trans h2
theorem tearFold_keys (n:Int):∀(V acc:List MapEntry) (a:Value),a∈(V.foldl (tearStep n) acc).map MapEntry.key→a∈acc.map MapEntry.key∨a∈V.map MapEntry.key
 |[],acc,a,h=>.inl h
 |e::V,acc,a,h=>by
  rcases tearFold_keys n V (tearStep n acc e) a h with h|h
  ·unfold tearStep at h
   split at h
   ·rw[List.map_append] at h;rcases List.mem_append.1 h with h|h
    ·exact .inl h
    ·exact .inr (by rw[List.map_cons];have:a=e.key:=by simpa using h
                    rw[this];exact List.mem_cons_self ..)
   ·exact .inl h
  ·exact .inr (List.mem_cons_of_mem _ h)
theorem tearOut_keys (n:Int) (V:List MapEntry) (a:Value) (h:a∈(tearOut n V).map MapEntry.key):a∈V.map MapEntry.key:=by
 rcases tearFold_keys n V [] a h with h|h
 ·cases h
 ·exact h
theorem tearV_eq (n:Int) (s:ByteArray) (p:Nat) (kp:Bool):tearV n (.agg #[.string s,.int .i64 p,.bool kp])=(s.size-tearL n s.size p,bif Nat.blt 0 (tearL n s.size p)||kp then some (.agg #[.string (s.extract 0 (tearL n s.size p)),.int .i64 (tearL n s.size p),.bool true]) else none):=rfl
structure TearW (w:World) (H:Nat) (W2 W3:World) (o:Obj) (v:Value):Prop where
 os:W3.os=W2.os
 out:W3.output=W2.output
 size:W3.heap.size=W2.heap.size+1
 row:W3.heap[H+1]?=some (.cells #[v,.map (some H)] 157 (0,0))
 old:∀b,b<W2.heap.size→b≠H+1→W3.heap[b]?=W2.heap[b]?
theorem tear_w3 (w:World) {H:Nat} {W2:World} {o:Obj} {u v:Value} (hlt:H+1<W2.heap.size) (hrow:W2.heap[H+1]?=some (.cells #[u,.map (some H)] 157 (0,0))):
  TearW w H W2 (((W2.alloc o).setCell ⟨H+1,0,none⟩ v).drew) o v:=by
 have h:=setCells_eq (H+1) 157 (0,0) [v] 0 #[u,.map (some H)] (W2.alloc o) (by rw[alloc_old _ _ hlt];exact hrow);have h:(W2.alloc o).setCell ⟨H+1,0,none⟩ v=_:=h;rw[h];have ha:=alloc_size W2 o;refine⟨rfl,rfl,?_,?_,fun b hb hne=> ?_⟩
 ·show((W2.alloc o).heap.setIfInBounds _ _).size=_;rw[Array.size_setIfInBounds,ha]
 ·show((W2.alloc o).heap.setIfInBounds _ _)[H+1]?=_;rw[Array.getElem?_setIfInBounds_self_of_lt (by omega)];rfl
 ·show((W2.alloc o).heap.setIfInBounds _ _)[b]?=_;rw[Array.getElem?_setIfInBounds_ne (Ne.symm hne),alloc_old _ _ hb]
theorem tear_next {w:World} {mb:Nat} {es:Array MapEntry} {clk:Nat} {room n:Int} {V:List MapEntry} {wr W2 W3:World} {o:Obj} {e:MapEntry} (hI:TearI w mb es clk room n V wr) (hs2:W2.heap.size=wr.heap.size)
  (hb2:∀b,b≠w.heap.size+2→W2.heap[b]?=wr.heap[b]?) (hit2:W2.heap[w.heap.size+2]?=some (.mapIter (some mb) clk ((V.map MapEntry.born).toArray.push e.born) clk)) (ho:W2.os=w.os∧W2.output=w.output)
  (h3:TearW w w.heap.size W2 W3 o (.int .i64 (room+tearAdd n (V++[e])))) (hno:(tearV n e.val).2=none):TearI w mb es clk room n (V++[e]) W3:=by
 have hsz:=hI.size;refine⟨by rw[h3.size];omega,fun b hb=> ?_,h3.os.trans ho.1,h3.out.trans ho.2,?_,h3.row,clk,Nat.le_refl _,?_⟩
 ·rw[h3.old b (by omega) (by omega),hb2 b (by omega)];exact hI.old b hb
 ·rw[h3.old _ (by omega) (by omega),hb2 _ (by omega),hI.mp,tearOut_snoc];unfold tearStep;rw[hno]
 ·rw[h3.old _ (by omega) (by omega),hit2];simp
theorem tear_next' {w:World} {mb:Nat} {es:Array MapEntry} {clk:Nat} {room n:Int} {V:List MapEntry} {wr W2 W3:World} {o:Obj} {e:MapEntry} {v:Value} (hI:TearI w mb es clk room n V wr) (hs2:W2.heap.size=wr.heap.size)
  (hb2:∀b,b≠w.heap.size+2→W2.heap[b]?=wr.heap[b]?) (hit2:W2.heap[w.heap.size+2]?=some (.mapIter (some mb) clk ((V.map MapEntry.born).toArray.push e.born) clk)) (ho:W2.os=w.os∧W2.output=w.output)
  (h3:TearW w w.heap.size W2 W3 o (.int .i64 (room+tearAdd n (V++[e])))) (hno:(tearV n e.val).2=some v):
  TearI w mb es clk room n (V++[e]) { W3 with heap:=W3.heap.setIfInBounds w.heap.size (.map ((tearOut n V).toArray.push ⟨e.key,v,(tearOut n V).length⟩) ((tearOut n V).length+1))}:=by
 have hsz:=hI.size;have ne:∀b o',b≠w.heap.size→(W3.heap.setIfInBounds w.heap.size o')[b]?=W3.heap[b]?:=fun b o' hb=>Array.getElem?_setIfInBounds_ne (Ne.symm hb)
 refine⟨?_,fun b hb=> ?_,h3.os.trans ho.1,h3.out.trans ho.2,?_,?_,clk,Nat.le_refl _,?_⟩
 ·show _≤(W3.heap.setIfInBounds _ _).size;rw[Array.size_setIfInBounds,h3.size];omega
 ·show(W3.heap.setIfInBounds _ _)[b]?=_;rw[ne _ _ (by omega),h3.old b (by omega) (by omega),hb2 b (by omega)];exact hI.old b hb
 ·show(W3.heap.setIfInBounds _ _)[w.heap.size]?=_;rw[Array.getElem?_setIfInBounds_self_of_lt (by rw[h3.size];omega),tearOut_snoc];unfold tearStep;rw[hno];simp
 ·show(W3.heap.setIfInBounds _ _)[w.heap.size+1]?=_;rw[ne _ _ (by omega)];exact h3.row
 ·show(W3.heap.setIfInBounds _ _)[w.heap.size+2]?=_;rw[ne _ _ (by omega),h3.old _ (by omega) (by omega),hit2];simp
theorem TearI.congr {w:World} {mb:Nat} {es:Array MapEntry} {clk:Nat} {room n:Int} {V:List MapEntry} {A B:World} (h:TearI w mb es clk room n V A) (h1:B.heap=A.heap) (h2:B.os=A.os) (h3:B.output=A.output):TearI w mb es clk room n V B:=
 ⟨by rw[h1];exact h.size,fun b hb=>by rw[h1];exact h.old b hb,h2.trans h.os,h3.trans h.out,by rw[h1];exact h.mp,by rw[h1];exact h.row,by rw[h1];exact h.it⟩
theorem tear_put {W:World} {b:Nat} {acc:List MapEntry} {k:ByteArray} {v:Value} (h:W.heap[b]?=some (.map acc.toArray acc.length)) (hk:∀x,x∈acc→∃q,x.key=.string q∧q≠k):
  (Instr.mapUpdate 155 (.map (some b)) (.string k) v).run Tryz.prog W=.ok () { W with heap:=W.heap.setIfInBounds b (.map (acc.toArray.push ⟨.string k,v,acc.length⟩) (acc.length+1))}:=by
 have hT:=teOf_ok tyT_eq;have hu:(teOf tyT).und 155=some (.map 9 159):=by kernel_rfl
 have hd:(teOf tyT).und 9=some .string:=by kernel_rfl
 have hkk:keyK .string (.string k)=true:=rfl;have hf:∀(l:List MapEntry) (i:Nat),(∀x,x∈l→∃q,x.key=.string q∧q≠k)→Instr.findNow .string (.string k) l i=some none:=by
  intro l
  induction l with
  |nil=>intro i _;rfl
  |cons x l ih=>
   intro i hl;obtain⟨q,hq,hne⟩:=hl x (List.mem_cons_self ..);have hs:Instr.sameNow .string (.string k) x.key=some false:=by
    rw[hq];simp only[Instr.sameNow];congr 1;cases hb:(k==q)
    ·rfl
    ·exact absurd ((ba_beq k q).1 hb).symm hne
   simp only[Instr.findNow,hs];exact ih (i+1) fun y hy=>hl y (List.mem_cons_of_mem _ hy)
 simp only[Instr.mapUpdate,Sem.run_bind,run_und hT hu,Result.andThen_ok,run_getMap Tryz.prog W h,run_checkKey hT hd hkk,run_findKey hT hd (hf acc 0 hk),run_setMap Tryz.prog W h]
theorem tear_w (w:World) (cb co mb:Nat) (es:Array MapEntry) (clk:Nat) (room n:Int) (h0:w.cell? ⟨cb,co,none⟩=some (.int .i64 room)) (h1:w.cell? ⟨cb,co+1,none⟩=some (.map (some mb)))
  (hm:w.heap[mb]?=some (.map es clk)) (hent:∀e,e∈es.toList→∃(k s:ByteArray) (p:Nat) (kp:Bool),e.key=.string k∧e.val=.agg #[.string s,.int .i64 p,.bool kp]∧p≤s.size∧s.size<1099511627776)
  (hbn:∀e,e∈es.toList→e.born<clk) (hnd:(es.toList.map MapEntry.born).Nodup) (hkd:(es.toList.map MapEntry.key).Nodup) (hr0:0≤room) (hr1:room+tearAdd n es.toList<4611686018427387904):
  Calls Tryz.prog 47 #[.pointer (some ⟨cb,co,none⟩),.int .i64 n] w fun e w'=>∃V,V.Perm es.toList∧e=.returned (.pointer (some ⟨w.heap.size+1,0,none⟩))∧TearI w mb es clk room n V w':=by
 have hmm:= @run_makeMap Tryz.prog;have hmb:=heap_lt hm;have hcb:cb<w.heap.size:=block_lt_of_cell h0;have hrg:=run_range_map (P:=Tryz.prog) ((w.alloc (Obj.map #[] 0)).alloc (Obj.cells #[.int .i64 room,.map (some w.heap.size)] 157)) 155 9 159 mb es clk Tryz.underlying155 (by rw[alloc_old _ _ (by rw[alloc_size];omega),alloc_old _ _ hmb];exact hm)
 have hsz:((w.alloc (Obj.map #[] 0)).alloc (Obj.cells #[.int .i64 room,.map (some w.heap.size)] 157)).heap.size=w.heap.size+2:=by rw[alloc_size,alloc_size]
 rw[hsz] at hrg
 go_enter Tryz.func47,Tryz.ntmps47
 go_wp2
 go_loopg [6,7,8,9] es.size (fun gg _ _ _ _ wr=>∃V L,(V++L).Perm es.toList∧L.length≤gg∧TearI w mb es clk room n V wr)
 case atStart=>
  refine⟨[],es.toList,List.Perm.refl _,by simp,⟨by rw[alloc_size,hsz];omega,fun b hb=> ?_,rfl,rfl,?_,?_,clk,Nat.le_refl _,?_⟩⟩
  ·rw[alloc_old _ _ (by rw[hsz];omega),alloc_old _ _ (by rw[alloc_size];omega),alloc_old _ _ hb]
  ·rw[alloc_old _ _ (by rw[hsz];omega),alloc_old _ _ (by rw[alloc_size];omega),alloc_new _ _ rfl];rfl
  ·rw[alloc_old _ _ (by rw[hsz];omega),alloc_new _ _ (by rw[alloc_size])];simp[tearAdd]
  ·rw[alloc_new _ _ hsz.symm];rfl
 case round=>
  obtain⟨V,L,hp,hL,hI⟩:=hrel;obtain⟨c0,hc0,hit⟩:=hI.it;have hmap:wr.heap[mb]?=some (.map es clk):=(hI.old mb hmb).trans hm;have hnV:((V++L).map MapEntry.born).Nodup:=(hp.map MapEntry.born).nodup_iff.2 hnd;have lo:∀e,e∈(leftOf es (V.map MapEntry.born).toArray).toList↔e∈es.toList∧e.born∉V.map MapEntry.born:=fun e=>by
   unfold leftOf;rw[Array.toList_filter,List.mem_filter];simp
  rcases run_next_at (P:=Tryz.prog) wr 0 (w.heap.size+2) mb clk c0 (V.map MapEntry.born).toArray es clk hit hmap hbn hc0 with⟨hz,hrun⟩|⟨e,he,w1,hw1,hrun⟩
  ·have hLn:L=[]:=by
    rcases L with _|⟨x,L⟩
    ·rfl
    ·exfalso;have hx:x∈(leftOf es (V.map MapEntry.born).toArray).toList:=(lo x).2 ⟨hp.mem_iff.1 (by simp),fun hb=>by
      rw[List.map_append,List.nodup_append] at hnV;obtain⟨y,hy,hyb⟩:=List.mem_map.1 hb;exact hnV.2.2 _ (List.mem_map_of_mem hy) _ (List.mem_map_of_mem (List.mem_cons_self ..)) hyb⟩
     rw[Array.eq_empty_of_size_eq_zero hz] at hx;cases hx
   subst hLn;rw[List.append_nil] at hp;clear lo hnV hz hL hnd hkd hent hbn hr1
   go_wp2
   go_ret
   exact⟨V,hp,rfl,hI⟩
  ·obtain⟨hes,hnb⟩:=(lo e).1 he;have heL:e∈L:=by
    rcases List.mem_append.1 (hp.mem_iff.2 hes) with h|h
    ·exact absurd (List.mem_map_of_mem h) hnb
    ·exact h
   obtain⟨L1,L2,rfl⟩:=List.append_of_mem heL;have hp':((V++[e])++(L1++L2)).Perm es.toList:=by
    refine List.Perm.trans ?_ hp;rw[List.append_assoc];exact List.Perm.append_left V (by rw[List.singleton_append];exact List.perm_middle.symm)
   obtain⟨k,s,p,kp,hek,hev,hps,hss⟩:=hent e hes;obtain⟨W2,hW2⟩:∃W2,W2=setBlock w1 (w.heap.size+2) (.mapIter (some mb) clk ((V.map MapEntry.born).toArray.push e.born) clk):=⟨_,rfl⟩
   rw[←hW2,hek,hev] at hrun;have w1h:w1.heap=wr.heap∧w1.os=wr.os∧w1.output=wr.output:=by rcases hw1 with rfl|rfl<;>exact⟨rfl,rfl,rfl⟩
   have hs2:W2.heap.size=wr.heap.size:=by rw[hW2];simp[setBlock,w1h.1]
   have hb2:∀b,b≠w.heap.size+2→W2.heap[b]?=wr.heap[b]?:=fun b hb=>by
    rw[hW2];simp only[setBlock,w1h.1];rw[Array.getElem?_setIfInBounds_ne (Ne.symm hb)]
   have hit2:W2.heap[w.heap.size+2]?=some (.mapIter (some mb) clk ((V.map MapEntry.born).toArray.push e.born) clk):=by
    rw[hW2];simp only[setBlock,w1h.1];rw[Array.getElem?_setIfInBounds_self_of_lt (by have:=hI.size;omega)]
   have ho2:W2.os=w.os∧W2.output=w.output:=by
    rw[hW2];exact⟨w1h.2.1.trans hI.os,w1h.2.2.trans hI.out⟩
   have hm2:W2.heap[mb]?=some (.map es clk):=by rw[hb2 _ (by omega)];exact hmap
   have hen:=run_entry_at (P:=Tryz.prog) W2 (w.heap.size+2) mb clk (V.map MapEntry.born).toArray es clk e hit2 hm2 hes hnd;rw[hek,hev] at hen;have hrow:=(hb2 (w.heap.size+1) (by omega)).trans hI.row;have hmp:=(hb2 w.heap.size (by omega)).trans hI.mp;have hc1:W2.cell? ⟨w.heap.size+1,0,none⟩=some (.int .i64 (room+tearAdd n V)):=by simp[World.cell?,hrow]
   have hc2:W2.cell? ⟨w.heap.size+1,1,none⟩=some (.map (some w.heap.size)):=by simp[World.cell?,hrow]
   have hf1:W2.frozen? ⟨w.heap.size+1,0,none⟩=false:=by simp[World.frozen?,hrow]
   have hlt2:w.heap.size+3≤W2.heap.size:=by have:=hI.size;omega
   clear hW2 hw1 w1h hnb lo hnV heL hmap hit;have ha1:∀o,(W2.alloc o).cell? ⟨w.heap.size+1,0,none⟩=some (.int .i64 (room+tearAdd n V)):=fun o=>by simp only[World.cell?,alloc_old W2 o (show w.heap.size+1<W2.heap.size by omega),hrow];rfl
   have ha2:∀o,(W2.alloc o).cell? ⟨w.heap.size+1,1,none⟩=some (.map (some w.heap.size)):=fun o=>by simp only[World.cell?,alloc_old W2 o (show w.heap.size+1<W2.heap.size by omega),hrow];rfl
   have ha3:∀o,(W2.alloc o).frozen? ⟨w.heap.size+1,0,none⟩=false:=fun o=>by simp[World.frozen?,alloc_old W2 o (show w.heap.size+1<W2.heap.size by omega),hrow]
   have mixed:Tryz.prog.follows .mixedOrders=true:=by kernel_rfl
   obtain⟨left,hleft⟩:∃left,left=tearL n s.size p:=⟨_,rfl⟩
   have hll:left≤s.size:=by rw[hleft];exact tearL_le hps
   obtain⟨rm,hrm⟩:∃rm:Nat,(rm:Int)=room+tearAdd n V:=⟨(room+tearAdd n V).toNat,by omega⟩
   have hadd:tearAdd n (V++[e])=tearAdd n V+(s.size-left):=by
    rw[tearAdd_append];simp only[tearAdd,hev,tearV_eq,←hleft];omega
   have hbig:(rm:Int)+((s.size-left:Nat):Int)<4611686018427387904:=by
    have h1:=tearAdd_perm (n:=n) hp';rw[tearAdd_append] at h1;omega
   have hv2:(tearV n e.val).2=bif Nat.blt 0 left||kp then some (.agg #[.string (s.extract 0 left),.int .i64 left,.bool true]) else none:=by rw[hev,tearV_eq,←hleft]
   have hnew:(.int .i64 ((rm:Int)+((s.size:Int)-(left:Int))):Value)=.int .i64 (room+tearAdd n (V++[e])):=by congr 1;omega
   have hfree:∀x,x∈tearOut n V→∃q,x.key=.string q∧q≠k:=fun x hx=>by
    have hk:=tearOut_keys n V x.key (List.mem_map_of_mem hx);obtain⟨y,hy,hyk⟩:=List.mem_map.1 hk;have hye:y∈es.toList:=hp.mem_iff.1 (List.mem_append_left _ hy);obtain⟨q,_,_,_,hq,_⟩:=hent y hye;refine⟨q,by rw[←hyk,hq],fun h=> ?_⟩;subst h;have hnk:((V++(L1++e::L2)).map MapEntry.key).Nodup:=(hp.map MapEntry.key).nodup_iff.2 hkd
    rw[List.map_append,List.nodup_append] at hnk;exact hnk.2.2 _ (List.mem_map_of_mem hy) _ (List.mem_map_of_mem (List.mem_append_right _ (List.mem_cons_self ..))) (by rw[hq,hek])
   have h3:TearW w w.heap.size W2 (((W2.alloc (Obj.cells #[.string s,.int .i64 p,.bool kp] 159)).setCell ⟨w.heap.size+1,0,none⟩ (.int .i64 ((rm:Int)+((s.size:Int)-(left:Int))))).drew) (Obj.cells #[.string s,.int .i64 p,.bool kp] 159) (.int .i64 ((rm:Int)+((s.size:Int)-(left:Int)))):=tear_w3 w (by omega) hrow
   rw[←hrm] at ha1;have hw2:wrap64 ((s.size:Int)-(left:Int))=(s.size:Int)-(left:Int):=by unfold wrap64;omega
   have hw3:wrap64 ((rm:Int)+((s.size:Int)-(left:Int)))=(rm:Int)+((s.size:Int)-(left:Int)):=by unfold wrap64;omega
   have hmeas:(L1++L2).length<gk:=by simp only[List.length_append,List.length_cons] at hL⊢;omega
   have HL:Aside (left=tearL n s.size p):=hleft;have HP:Aside (((V++[e])++(L1++L2)).Perm es.toList):=hp';have HH:Aside ((e.key=.string k)∧((tearV n e.val).2=bif Nat.blt 0 left||kp then some (.agg #[.string (s.extract 0 left),.int .i64 left,.bool true]) else none)):=⟨hek,hv2⟩
   have HI:Aside (TearI w mb es clk room n V wr):=hI;have HB:Aside (∀b,b≠w.heap.size+2→W2.heap[b]?=wr.heap[b]?):=hb2;have HT:Aside (W2.heap[w.heap.size+2]?=some (.mapIter (some mb) clk ((V.map MapEntry.born).toArray.push e.born) clk)∧W2.os=w.os∧W2.output=w.output∧W2.heap[w.heap.size]?=some (.map (tearOut n V).toArray (tearOut n V).length)):=⟨hit2,ho2.1,ho2.2,hmp⟩
   have HF:Aside (∀x,x∈tearOut n V→∃q,x.key=.string q∧q≠k):=hfree;have H3:Aside _:=h3;have HN:Aside _:=hnew;have HM:Aside ((L1++L2).length<gk):=hmeas;by_cases hn0:0<n
   ·have hw1:wrap64 ((p:Int)+n%((s.size:Int)-(p:Int)+1))=(left:Int):=by
     have:(p:Int)+n%((s.size:Int)-(p:Int)+1)=(left:Int):=by
      rw[hleft];unfold tearL;rw[if_pos hn0];obtain⟨m,rfl⟩:∃m:Nat,n=m:=⟨n.toNat,by omega⟩
      rw[show(s.size:Int)-(p:Int)+1=((s.size-p+1:Nat):Int) by omega];simp
     rw[this];unfold wrap64;omega
    clear hleft hrm hek hev hbig hc0 hL hr0 hr1 hI hb2 hit2 ho2 hfree h3 hnew hmeas hv2 hadd hp hmp hent hbn hnd hkd hes he hm2 hp'
    go_wp2
    go_region
    by_cases hl0:0<left
    ·have hput:=tear_put (W:=(((W2.alloc (Obj.cells #[.string s,.int .i64 p,.bool kp] 159)).setCell ⟨w.heap.size+1,0,none⟩ (.int .i64 ((rm:Int)+((s.size:Int)-(left:Int))))).drew).drew) (k:=k) (v:=.agg #[.string (s.extract 0 left),.int .i64 left,.bool true]) (acc:=tearOut n V) ((H3.out.old _ (by omega) (by omega)).trans HT.out.2.2.2) HF.out
     go_wp2
     go_region
     go_wp2
     go_roundg (L1++L2).length
     case measure=>exact HM.out
     case rel=>
      have hl:(tearV n e.val).2=some (.agg #[.string (s.extract 0 left),.int .i64 left,.bool true]):=by rw[HH.out.2];first|rfl|(rw[show Nat.blt 0 left=true by simpa using hl0];rfl)|(rw[show left=0 by omega];rfl)
      have hx:=H3.out;rw[HN.out] at hx;refine⟨V++[e],L1++L2,HP.out,Nat.le_refl _,(tear_next' HI.out hs2 HB.out HT.out.1 ⟨HT.out.2.1,HT.out.2.2.1⟩ hx hl).congr ?_ ?_ ?_⟩
      ·rw[HH.out.1,HN.out];simp;rfl
      ·rw[HN.out];rfl
      ·rw[HN.out];rfl
    ·cases kp
     ·go_wp2
      go_roundg (L1++L2).length
      case measure=>exact HM.out
      case rel=>
       have hl:(tearV n e.val).2=none:=by rw[HH.out.2,show left=0 by omega];rfl
       have hx:=H3.out;rw[HN.out] at hx;refine⟨V++[e],L1++L2,HP.out,Nat.le_refl _,(tear_next HI.out hs2 HB.out HT.out.1 ⟨HT.out.2.1,HT.out.2.2.1⟩ hx hl).congr ?_ ?_ ?_⟩
       ·rw[HN.out]
       ·rw[HN.out]
       ·rw[HN.out]
     ·have hput:=tear_put (W:=(((W2.alloc (Obj.cells #[.string s,.int .i64 p,.bool true] 159)).setCell ⟨w.heap.size+1,0,none⟩ (.int .i64 ((rm:Int)+((s.size:Int)-(left:Int))))).drew).drew) (k:=k) (v:=.agg #[.string (s.extract 0 left),.int .i64 left,.bool true]) (acc:=tearOut n V) ((H3.out.old _ (by omega) (by omega)).trans HT.out.2.2.2) HF.out
      go_wp2
      go_region
      go_wp2
      go_roundg (L1++L2).length
      case measure=>exact HM.out
      case rel=>
       have hl:(tearV n e.val).2=some (.agg #[.string (s.extract 0 left),.int .i64 left,.bool true]):=by rw[HH.out.2];first|rfl|(rw[show Nat.blt 0 left=true by simpa using hl0];rfl)|(rw[show left=0 by omega];rfl)
       have hx:=H3.out;rw[HN.out] at hx;refine⟨V++[e],L1++L2,HP.out,Nat.le_refl _,(tear_next' HI.out hs2 HB.out HT.out.1 ⟨HT.out.2.1,HT.out.2.2.1⟩ hx hl).congr ?_ ?_ ?_⟩
       ·rw[HH.out.1,HN.out];simp;rfl
       ·rw[HN.out];rfl
       ·rw[HN.out];rfl
   ·have hw1:left=p:=by rw[hleft];unfold tearL;rw[if_neg hn0]
    subst hw1;clear hleft HL hrm hek hev hbig hc0 hL hr0 hr1 hI hb2 hit2 ho2 hfree h3 hnew hmeas hv2 hadd hp hmp hent hbn hnd hkd hes he hm2 hp'
    go_wp2
    go_region
    by_cases hl0:0<left
    ·have hput:=tear_put (W:=(((W2.alloc (Obj.cells #[.string s,.int .i64 left,.bool kp] 159)).setCell ⟨w.heap.size+1,0,none⟩ (.int .i64 ((rm:Int)+((s.size:Int)-(left:Int))))).drew).drew) (k:=k) (v:=.agg #[.string (s.extract 0 left),.int .i64 left,.bool true]) (acc:=tearOut n V) ((H3.out.old _ (by omega) (by omega)).trans HT.out.2.2.2) HF.out
     go_wp2
     go_region
     go_wp2
     go_roundg (L1++L2).length
     case measure=>exact HM.out
     case rel=>
      have hl:(tearV n e.val).2=some (.agg #[.string (s.extract 0 left),.int .i64 left,.bool true]):=by rw[HH.out.2];first|rfl|(rw[show Nat.blt 0 left=true by simpa using hl0];rfl)|(rw[show left=0 by omega];rfl)
      have hx:=H3.out;rw[HN.out] at hx;refine⟨V++[e],L1++L2,HP.out,Nat.le_refl _,(tear_next' HI.out hs2 HB.out HT.out.1 ⟨HT.out.2.1,HT.out.2.2.1⟩ hx hl).congr ?_ ?_ ?_⟩
      ·rw[HH.out.1,HN.out];simp;rfl
      ·rw[HN.out];rfl
      ·rw[HN.out];rfl
    ·cases kp
     ·go_wp2
      go_roundg (L1++L2).length
      case measure=>exact HM.out
      case rel=>
       have hl:(tearV n e.val).2=none:=by rw[HH.out.2,show left=0 by omega];rfl
       have hx:=H3.out;rw[HN.out] at hx;refine⟨V++[e],L1++L2,HP.out,Nat.le_refl _,(tear_next HI.out hs2 HB.out HT.out.1 ⟨HT.out.2.1,HT.out.2.2.1⟩ hx hl).congr ?_ ?_ ?_⟩
       ·rw[HN.out]
       ·rw[HN.out]
       ·rw[HN.out]
     ·have hput:=tear_put (W:=(((W2.alloc (Obj.cells #[.string s,.int .i64 left,.bool true] 159)).setCell ⟨w.heap.size+1,0,none⟩ (.int .i64 ((rm:Int)+((s.size:Int)-(left:Int))))).drew).drew) (k:=k) (v:=.agg #[.string (s.extract 0 left),.int .i64 left,.bool true]) (acc:=tearOut n V) ((H3.out.old _ (by omega) (by omega)).trans HT.out.2.2.2) HF.out
      go_wp2
      go_region
      go_wp2
      go_roundg (L1++L2).length
      case measure=>exact HM.out
      case rel=>
       have hl:(tearV n e.val).2=some (.agg #[.string (s.extract 0 left),.int .i64 left,.bool true]):=by rw[HH.out.2];first|rfl|(rw[show Nat.blt 0 left=true by simpa using hl0];rfl)|(rw[show left=0 by omega];rfl)
       have hx:=H3.out;rw[HN.out] at hx;refine⟨V++[e],L1++L2,HP.out,Nat.le_refl _,(tear_next' HI.out hs2 HB.out HT.out.1 ⟨HT.out.2.1,HT.out.2.2.1⟩ hx hl).congr ?_ ?_ ?_⟩
       ·rw[HH.out.1,HN.out];simp;rfl
       ·rw[HN.out];rfl
       ·rw[HN.out];rfl
end Go.Proofs.YtikedhemjoljpaaGreatDoor
namespace Go.Eng
open Go
theorem Post.of_matP {P:Program} {D:Nat→Prop} {ι ι':Nat→Reg} {σ σ':St} {w w':World} {own:List Nat} {rh:List Nat} (hw:σ.wf) (m:MatP P w' (fun _=>none) own D ι σ σ' ι') (hs:w.heap.size≤w'.heap.size)
  (h1:w'.os=w.os) (h2:w'.output=w.output) (hh:∀b,b<w.heap.size→w'.heap[b]?=w.heap[b]?) (ho:∀b,b∈own→w.heap.size≤b∧b<w'.heap.size):
  Post P D (σ.rng σ') ι σ.H w ⟨[],rh,[],[]⟩ ι' σ'.H w' where
 io:=m.io
 size:=hs
 os:=h1
 out:=h2
 hdr:=fun id x hx e=>by
  have hx:σ.rng σ' id:=by rcases hx with hx|hx;cases hx;exact hx
  obtain⟨o,g1,g2,_⟩:=m.new id hx;rw[St.hdr_of g1] at e;cases e;exact g2
 cel:=fun id k v hx _ e=>by
  have hx:σ.rng σ' id:=by rcases hx with(hx|hx)|hx;cases hx;cases hx;exact hx
  obtain⟨o,g1,_,g3⟩:=m.new id hx;refine g3 k v ?_;simp only[St.H,g1] at e;exact e
 ahdr:=fun id hn _=>by simp only[St.H,m.a.old id hn]
 acel:=fun id k hn _=>by simp only[St.H,m.a.old id hn]
 cfr:=fun b hb _=>by rw[hh b hb];exact ObjBut.refl _ _
 fresh:=fun id hn _ b hb=>.inl (ho b (m.own id hn b hb))
 freshF:=fun id hn _ b hb=>by
  obtain⟨c,hc⟩:=hb;have:=m.fz id hn b c hc;cases this
 dist:=fun i j hi hj _ _ hij b hb=>⟨m.dist i j hi hj hij b hb,fun⟨c,hc⟩=>by have:=m.fz j hj b c hc;cases this⟩
 nl:=fun id hn=>St.hdr_none hw id hn.1
 wl:=fun id k hx=>by rcases hx with hx|hx<;>cases hx
 wrm:=fun id hn hx=>hx.of_hdr (by simp only[St.H,m.a.old id hn])
 wrow:=fun id k hx=>by rcases hx with hx|hx<;>cases hx
end Go.Eng
namespace Go.Proofs.YtikedhemjoljpaaGreatDoor
open Go Go.Eng
set_option maxRecDepth 1000000
def pairE (e:MapEntry):Value×Value:=(e.key,e.val)
def tearG (n:Int) (a:Value×Value):Option (Value×Value):=
 match(tearV n a.2).2 with
 |some v=>some (a.1,v)
 |none=>none
def tearSum (n:Int):List (Value×Value)→Nat
 |[]=>0
 |a::l=>(tearV n a.2).1+tearSum n l
def tearOk (a:Value×Value):Bool:=
 match a.1,a.2 with
 | .string _,.agg c=>match c.toList with
   |[.string s,.int .i64 (.ofNat p),.bool _]=>Nat.ble p s.size&&Nat.blt s.size 1099511627776
   |_=>false
 |_,_=>false
theorem tearOk_spec {a:Value×Value} (h:tearOk a=true):∃(k s:ByteArray) (p:Nat) (kp:Bool),a.1=.string k∧a.2=.agg #[.string s,.int .i64 p,.bool kp]∧p≤s.size∧s.size<1099511627776:=by
 obtain⟨x,y⟩:=a;unfold tearOk at h
 split at h
 ·rename_i k c e1 e2;simp only at e1 e2
  split at h
  ·rename_i s p kp hc;rw[Bool.and_eq_true] at h;refine⟨k,s,p,kp,e1,?_,Nat.le_of_ble_eq_true h.1,by simpa using h.2⟩;have:c=#[.string s,.int .i64 (Int.ofNat p),.bool kp]:=Array.ext' hc;show y=_;rw[e2,this];rfl
  ·cases h
 ·cases h
theorem tearSum_eq (n:Int):∀V:List MapEntry,tearAdd n V=tearSum n (V.map pairE)
 |[]=>rfl
 |e::V=>by simp only[tearAdd,List.map_cons,tearSum,tearSum_eq n V,pairE]
theorem tearSum_perm {n:Int} {V U:List (Value×Value)} (h:V.Perm U):tearSum n V=tearSum n U:=by
 induction h with
 |nil=>rfl
 |cons a _ ih=>simp only[tearSum,ih]
 |swap a b l=>simp only[tearSum];omega
 |trans _ _ h1 h2=>exact h1.trans h2
theorem tearFold (n:Int):∀(V acc:List MapEntry),acc.map MapEntry.born=List.range acc.length→
  (V.foldl (tearStep n) acc).map pairE=acc.map pairE++(V.map pairE).filterMap (tearG n)∧(V.foldl (tearStep n) acc).map MapEntry.born=List.range (V.foldl (tearStep n) acc).length
 |[],acc,h=>⟨by simp,h⟩
 |e::V,acc,h=>by
  have hb:(tearStep n acc e).map MapEntry.born=List.range (tearStep n acc e).length:=by
   unfold tearStep
   split
   ·rw[List.map_append,h,List.length_append,List.length_singleton,List.range_succ];rfl
   ·exact h
  obtain⟨h1,h2⟩:=tearFold n V (tearStep n acc e) hb;refine⟨?_,h2⟩;rw[List.foldl_cons,h1,List.map_cons,List.filterMap_cons];unfold tearStep tearG;simp only[pairE];cases(tearV n e.val).2 with
  |none=>rfl
  |some v=>simp[pairE]
theorem perm_pairs:∀(es:List (Value×Value)) (m:List MapEntry),(m.map MapEntry.key).Perm (es.map Prod.fst)→(es.map Prod.fst).Nodup→(∀a,a∈es→∃e,e∈m∧pairE e=a)→(m.map pairE).Perm es
 |[],m,hp,_,_=>by
  have:m=[]:=by
   have:=hp.length_eq;simpa using this
  subst this;exact .nil
 |a::es,m,hp,hn,hm=>by
  obtain⟨e,he,rfl⟩:=hm a (List.mem_cons_self ..);obtain⟨m1,m2,rfl⟩:=List.append_of_mem he;rw[List.map_cons,List.nodup_cons] at hn;have hp':((m1++m2).map MapEntry.key).Perm (es.map Prod.fst):=by
   have h1:((m1++e::m2).map MapEntry.key).Perm (e.key::(m1++m2).map MapEntry.key):=by
    rw[List.map_append,List.map_cons,List.map_append];exact List.perm_middle
   have:=h1.symm.trans hp;rw[List.map_cons] at this;exact this.cons_inv
  have ih:=perm_pairs es (m1++m2) hp' hn.2 fun b hb=>by
   obtain⟨x,hx,hxb⟩:=hm b (List.mem_cons_of_mem _ hb);refine⟨x,?_,hxb⟩;have hne:x≠e:=fun h=>by
    subst h;exact hn.1 (List.mem_map.2 ⟨b,hb,by rw[←hxb]⟩)
   rcases List.mem_append.1 hx with h|h
   ·exact List.mem_append_left _ h
   ·rcases List.mem_cons.1 h with h|h
    ·exact absurd h hne
    ·exact List.mem_append_right _ h
  have h2:((m1++e::m2).map pairE).Perm (pairE e::(m1++m2).map pairE):=by
   rw[List.map_append,List.map_cons,List.map_append];exact List.perm_middle
  exact h2.trans (ih.cons _)
def tearAll (a:Value×Value):Bool:=match a.2 with
 | .agg c=>match c.toList with
   |[.string s,.int .i64 (.ofNat p),_]=>Nat.beq p s.size
   |_=>false
 |_=>false
def tearN (v:Value):Option (Int×Bool):=match v with
 | .int .i64 n=>some (n,false)
 | .tuple a=>match a.toList with
   |[.chan (some 1),.int .i64 _]=>some (0,true)
   |_=>none
 |_=>none
noncomputable def aTear (args:List Value) (σ:St):Option (Value×St×Foot):=
 match args with
 |[.pointer (some ⟨c,0,none⟩),v2]=>match tearN v2 with
  |some (n,u)=>match σ.heap.get c with
   |some (.row [.int .i64 (.ofNat room),.map (some m)] e false)=>match σ.heap.get m with
    |some (.mp es _)=>bif Nat.beq e 157&&(es.all tearOk&&(Nat.blt (room+tearSum n es) 4611686018427387904&&(!u||es.all tearAll))) then
      some (.pointer (some ⟨σ.next+1,0,none⟩),(σ.new (.mp (es.filterMap (tearG n)) none)).new (.row [.int .i64 (.ofNat (room+tearSum n es)),.map (some σ.next)] 157 false),⟨[],[c,m],[],[]⟩)
     else none
    |_=>none
   |_=>none
  |none=>none
 |_=>none
theorem tearN_spec {v x:Value} {n0:Int} {u:Bool} {D:Nat→Prop} {ι:Nat→Reg} (h:tearN v=some (n0,u)) (hv:VR D ι v x):∃n,x=.int .i64 n∧(u=false→n=n0):=by
 unfold tearN at h
 split at h
 ·cases h;cases hv;exact⟨_,rfl,fun _=>rfl⟩
 ·rename_i a
  split at h
  ·rename_i m hm;cases h;obtain⟨l⟩:=a;simp only at hm;subst hm;have hu:unsy (sy (.int .i64 m))=some (.int .i64 m):=rfl;obtain⟨e, -⟩:=unsy_spec hu hv;exact⟨m,e,fun h=>by cases h⟩
  ·cases h
 ·cases h
theorem tearV_all {a:Value×Value} (h1:tearOk a=true) (h2:tearAll a=true) (n:Int):tearV n a.2=tearV 0 a.2:=by
 obtain⟨k,s,p,kp,_,e,hp,_⟩:=tearOk_spec h1;unfold tearAll at h2;rw[e] at h2;have hps:p=s.size:=Nat.eq_of_beq_eq_true h2;have hl:tearL n s.size p=tearL 0 s.size p:=by
  unfold tearL;rw[hps]
  split<;>simp[Nat.mod_one]
 rw[e];unfold tearV;simp only[hl]
theorem tearV_plain {n:Int} {v u:Value} (h:(tearV n v).2=some u):plainN 7 u=true:=by
 unfold tearV at h
 split at h
 ·split at h
  ·simp only at h;cases hb:(Nat.blt 0 (tearL n _ _)||_)<;>rw[hb] at h
   ·cases h
   ·cases h;rfl
  ·cases h
 ·cases h
theorem aTear_cus {E:Env} {args:List Value} {σ σ':St} {v:Value} {φ:Foot} (h:aTear args σ=some (v,σ',φ)):CusOK Tryz.prog E 47 args σ v σ' φ:=by
 unfold aTear at h
 split at h
 case h_2=>cases h
 rename_i c v2
 split at h
 case h_2=>cases h
 rename_i n0 uu hN
 split at h
 case h_2=>cases h
 rename_i room m e hg
 split at h
 case h_2=>cases h
 rename_i es ex hgm;cases hb:(Nat.beq e 157&&(es.all tearOk&&(Nat.blt (room+tearSum n0 es) 4611686018427387904&&(!uu||es.all tearAll))))
 ·rw[hb] at h;cases h
 rw[hb,cond_true] at h;simp only[Bool.and_eq_true] at hb;obtain⟨b0,b1,b2,b3⟩:=hb;have b0:=Nat.eq_of_beq_eq_true b0;subst b0;have b2:room+tearSum n0 es<4611686018427387904:=by simpa using b2
 simp only[Option.some.injEq,Prod.mk.injEq] at h;obtain⟨rfl,rfl,rfl⟩:=h;have hall:∀a,a∈es→keyK .string a.1=true:=fun a ha=>by
  obtain⟨k,_,_,_,hk,_⟩:=tearOk_spec (List.all_eq_true.1 b1 a ha);rw[hk];rfl
 have wf1:∀hw:σ.wf,(σ.new (.mp (es.filterMap (tearG n0)) none)).wf:=fun hw=>St.new_wf hw _
 refine⟨by simp only[St.new];omega,fun hw=>⟨St.new_wf (wf1 hw) _,?_⟩,fun _ D ι w args' hwf hGI hD hargs ho=> ?_⟩
 ·have a1:=AFr.new σ (.mp (es.filterMap (tearG n0)) none) (⟨[],[],[],[]⟩:Foot);have a2:=AFr.new (σ.new (.mp (es.filterMap (tearG n0)) none)) (.row [.int .i64 (.ofNat (room+tearSum n0 es)),.map (some σ.next)] 157 false) (⟨[],[c,m],[],[]⟩:Foot);exact a1.trans a2 (by simp only[St.new];omega) (by simp only[St.new];omega)
 ·have hlr:LR D ι _ args'.toList:=LR.of_AR (us:=args'.toList) (by simpa using hargs);obtain⟨u1,u2,g1,g2,rfl⟩:∃u1 u2,VR D ι (.pointer (some ⟨c,0,none⟩)) u1∧VR D ι v2 u2∧args'=#[u1,u2]:=by
   generalize hus:args'.toList=us at hlr;cases hlr with
   |cons ha hr=>
    cases hr with
    |cons hb hr=>
     cases hr;exact⟨_,_,ha,hb,Array.ext' hus⟩
  obtain⟨n,rfl,hn⟩:=tearN_spec hN g2;have hV0:∀a,a∈es→tearV n a.2=tearV n0 a.2:=fun a ha=>by
   cases uu with
   |false=>rw[hn rfl]
   |true=>
    have h0:n0=0:=by
     unfold tearN at hN
     split at hN
     ·cases hN
     ·split at hN
      ·cases hN;rfl
      ·cases hN
     ·cases hN
    rw[h0];exact tearV_all (List.all_eq_true.1 b1 a ha) (List.all_eq_true.1 (by simpa using b3) a ha) n
  have hS:∀l:List (Value×Value),(∀a,a∈l→tearV n a.2=tearV n0 a.2)→tearSum n l=tearSum n0 l∧l.filterMap (tearG n)=l.filterMap (tearG n0):=by
   intro l
   induction l with
   |nil=>intro _;exact⟨rfl,rfl⟩
   |cons a l ih=>
    intro hl;obtain⟨i1,i2⟩:=ih fun b hb=>hl b (List.mem_cons_of_mem _ hb)
    have ha:=hl a (List.mem_cons_self ..);have hg:tearG n a=tearG n0 a:=by unfold tearG;rw[ha]
    refine⟨by simp only[tearSum,ha,i1],?_⟩;rw[List.filterMap_cons,List.filterMap_cons,hg,i2]
  obtain⟨s1,s2⟩:=hS es hV0;rw[←s1] at b2;rw[←s1,←s2];obtain rfl:u1=.pointer (some ⟨(ι c).blk,(ι c).base+0,none⟩):=by cases g1;rfl
  have c0:=(ho.ceR c 0 (.int .i64 (.ofNat room)) (.inr (.inl (by simp))) (St.hdr_of hg) (by rw[St.cell_of hg];rfl)).2;obtain⟨v0,c0,hv0⟩:=c0;cases hv0;have c1:=(ho.ceR c 1 (.map (some m)) (.inr (.inl (by simp))) (St.hdr_of hg) (by rw[St.cell_of hg];rfl)).2;obtain⟨v1,c1,hv1⟩:=c1;obtain rfl:v1=.map (some (ι m).blk):=by cases hv1;rfl
  obtain⟨ms,clk,q1,q2,q3,q4,q5,q6,q7⟩:=mp_look (d:=.string) ho (fun k=>.inr (.inl (by simp))) hgm hall;have hpr:(ms.toList.map pairE).Perm es:=perm_pairs es ms.toList q3 q5 fun a ha=>by
   obtain⟨k,hk⟩:=List.mem_iff_getElem?.1 ha;obtain⟨x,hx,hxk,hxv⟩:=q7 k a hk;refine⟨x,hx,?_⟩;obtain⟨_,s,p,kp,_,h2,_⟩:=tearOk_spec (List.all_eq_true.1 b1 a ha);have:x.val=a.2:=plain_eq 8 a.2 x.val (by rw[h2];rfl) hxv;exact Prod.ext hxk this
  have hent:∀e,e∈ms.toList→∃(k s:ByteArray) (p:Nat) (kp:Bool),e.key=.string k∧e.val=.agg #[.string s,.int .i64 p,.bool kp]∧p≤s.size∧s.size<1099511627776:=fun e he=>
   tearOk_spec (a:=pairE e) (List.all_eq_true.1 b1 _ (hpr.mem_iff.1 (List.mem_map_of_mem he)))
  have hsum:tearAdd n ms.toList=tearSum n es:=by rw[tearSum_eq,tearSum_perm hpr]
  refine(tear_w w (ι c).blk ((ι c).base+0) (ι m).blk ms clk (Int.ofNat room) n c0 (by rw[Nat.add_zero];exact c1) q1 hent q4.1 q4.2 (q3.nodup_iff.2 q5) (Int.natCast_nonneg _) (by rw[hsum];show(room:Int)+_<_;omega)).mono ?_;rintro en w' ⟨V,hV,rfl,hI⟩;have hVp:(V.map pairE).Perm es:=(hV.map pairE).trans hpr
  obtain⟨f1,f2⟩:=tearFold n V [] rfl;have f1:(tearOut n V).map pairE=(V.map pairE).filterMap (tearG n):=by rw[List.map_nil,List.nil_append] at f1;exact f1
  have f2:(tearOut n V).map MapEntry.born=List.range (tearOut n V).length:=f2;have f3:((tearOut n V).map pairE).Perm (es.filterMap (tearG n)):=by rw[f1];exact hVp.filterMap _
  have hadd:tearAdd n V=tearSum n es:=by rw[tearSum_eq,tearSum_perm hVp]
  have hmp:=hI.mp;have hrow:=hI.row;rw[hadd] at hrow;have hsz:=hI.size;have hkn:((es.filterMap (tearG n)).map Prod.fst).Nodup:=by
   have:∀l:List (Value×Value),(l.map Prod.fst).Nodup→((l.filterMap (tearG n)).map Prod.fst).Nodup∧∀a,a∈(l.filterMap (tearG n)).map Prod.fst→a∈l.map Prod.fst:=by
    intro l
    induction l with
    |nil=>intro _;exact⟨List.nodup_nil,fun a h=>h⟩
    |cons a l ih=>
     intro h;rw[List.map_cons,List.nodup_cons] at h;obtain⟨i1,i2⟩:=ih h.2;rw[List.filterMap_cons];unfold tearG;cases(tearV n a.2).2 with
     |none=>exact⟨i1,fun b hb=>List.mem_cons_of_mem _ (i2 b hb)⟩
     |some v=>
      refine⟨List.nodup_cons.2 ⟨fun hm=>h.1 (i2 _ hm),i1⟩,fun b hb=> ?_⟩;rcases List.mem_cons.1 hb with hb|hb
      ·rw[hb];exact List.mem_cons_self ..
      ·exact List.mem_cons_of_mem _ (i2 b hb)
   exact(this es q5).1
  have m1:MatP Tryz.prog w' (fun _=>none) [w.heap.size] D ι σ (σ.new (.mp (es.filterMap (tearG n)) none)) (upd ι σ.next (rg w.heap.size 0 0 0)):=by
   refine MatP.one (r:=rg w.heap.size 0 0 0) ?_ ?_ (fun b c h=>by simp[rg] at h)
   ·refine⟨⟨(tearOut n V).toArray,(tearOut n V).length,hmp,?_,⟨fun e he=> ?_,?_⟩,hkn,fun bs c h=>by cases h⟩,rfl,rfl,fun b ⟨c,h⟩=>by simp[rg] at h⟩
    ·have:=f3.map Prod.fst;rw[List.map_map] at this;exact this
    ·have:e.born∈(tearOut n V).map MapEntry.born:=List.mem_map_of_mem he;rw[f2] at this;exact List.mem_range.1 this
    ·show((tearOut n V).map MapEntry.born).Nodup;rw[f2];exact List.nodup_range
   ·intro k v hk;obtain⟨a,ha,rfl⟩:=Option.map_eq_some_iff.1 hk;have hma:a∈es.filterMap (tearG n):=List.mem_of_getElem? ha;obtain⟨e,he,hea⟩:=List.mem_map.1 (f3.mem_iff.2 hma);refine⟨by rw[upd_eq];rfl,.tuple #[e.key,e.val],.inr ⟨(tearOut n V).toArray,(tearOut n V).length,by rw[upd_eq];exact hmp,e,he,rfl⟩,?_⟩
    obtain⟨b,hbm,hbg⟩:=List.mem_filterMap.1 hma;unfold tearG at hbg
    split at hbg
    ·rename_i u hu;cases hbg;have hk:=hall b hbm;have e1:e.key=b.1:=congrArg Prod.fst hea;have e2:e.val=u:=congrArg Prod.snd hea;rw[e1,e2];have hp:plainN 8 (.tuple #[b.1,u])=true:=by
      obtain⟨k,_,_,_,hk,_⟩:=tearOk_spec (List.all_eq_true.1 b1 b hbm);show [b.1,u].all (plainN 7)=true;rw[hk];simp only[List.all_cons,List.all_nil,tearV_plain hu,Bool.and_true];rfl
     exact plain_refl 8 _ hp
    ·cases hbg
  have m2:MatP Tryz.prog w' (fun _=>none) [w.heap.size+1] (fun i=>D i∨σ.rng (σ.new (.mp (es.filterMap (tearG n)) none)) i) (upd ι σ.next (rg w.heap.size 0 0 0)) (σ.new (.mp (es.filterMap (tearG n)) none))
    ((σ.new (.mp (es.filterMap (tearG n)) none)).new (.row [.int .i64 (.ofNat (room+tearSum n es)),.map (some σ.next)] 157 false)) (upd (upd ι σ.next (rg w.heap.size 0 0 0)) (σ.next+1) (rg (w.heap.size+1) 0 2 2)):=by
   refine MatP.one (r:=rg (w.heap.size+1) 0 2 2) ?_ ?_ (fun b c h=>by simp[rg] at h)
   ·refine⟨_,157,(0,0),hrow,rfl,Nat.le_refl _,⟨rfl,fun b ⟨c,h⟩=>by simp[rg] at h⟩,fun _=>⟨rfl,fun i hi=> ?_,fun o _ h=>by omega⟩⟩;have hi0:Tryz.prog.info? 157=some Tryz.t157:=by kernel_rfl
    rw[hi0] at hi;cases hi;have hz:Tryz.t157.size=2:=by kernel_rfl
    rw[hz];exact⟨rfl,rfl,by simp⟩
   ·intro k v hk;have own:(upd (upd ι σ.next (rg w.heap.size 0 0 0)) (σ.next+1) (rg (w.heap.size+1) 0 2 2) (σ.next+1))=rg (w.heap.size+1) 0 2 2:=upd_eq _ _ _;have old:(upd (upd ι σ.next (rg w.heap.size 0 0 0)) (σ.next+1) (rg (w.heap.size+1) 0 2 2) σ.next)=rg w.heap.size 0 0 0:=by rw[upd_ne _ _ (by omega),upd_eq]
    refine⟨by show(upd _ (σ.next+1) _ (σ.next+1)).own=true;rw[own];rfl,?_⟩
    match k with
    |0=>
     cases hk;refine⟨.int .i64 (Int.ofNat room+(tearSum n es:Nat)),.inl ?_,?_⟩
     ·show w'.cell? ⟨(upd _ (σ.next+1) _ (σ.next+1)).blk,(upd _ (σ.next+1) _ (σ.next+1)).base+0,none⟩=_;rw[own];simp[World.cell?,rg,hrow]
     ·have:(.int .i64 (Int.ofNat room+(tearSum n es:Nat)):Value)=.int .i64 (Int.ofNat (room+tearSum n es)):=rfl;rw[this];exact .int _ _
    |1=>
     cases hk;refine⟨.map (some w.heap.size),.inl ?_,?_⟩
     ·show w'.cell? ⟨(upd _ (σ.next+1) _ (σ.next+1)).blk,(upd _ (σ.next+1) _ (σ.next+1)).base+1,none⟩=_;rw[own];simp[World.cell?,rg,hrow]
     ·have:=VR.mapP (D:=fun i=>D i∨σ.rng (σ.new (.mp (es.filterMap (tearG n)) none)) i) (ι:=upd (upd ι σ.next (rg w.heap.size 0 0 0)) (σ.next+1) (rg (w.heap.size+1) 0 2 2)) σ.next (.inr (St.rng_new.2 rfl));rw[old] at this;exact this
    |k+2=>cases hk
  have hD':∀id,σ.rng ((σ.new (.mp (es.filterMap (tearG n)) none)).new (.row [.int .i64 (.ofNat (room+tearSum n es)),.map (some σ.next)] 157 false)) id→¬D id:=hD;have mm:=m1.trans hD' m2 fun b h h'=>by
   simp only[List.mem_singleton] at h h';omega
  refine⟨_,_,rfl,?_,Post.of_matP hwf mm (by omega) hI.os hI.out hI.old fun b hb=> ?_⟩
  ·have:=VR.ptr (D:=fun i=>D i∨σ.rng ((σ.new (.mp (es.filterMap (tearG n)) none)).new (.row [.int .i64 (.ofNat (room+tearSum n es)),.map (some σ.next)] 157 false)) i) (ι:=upd (upd ι σ.next (rg w.heap.size 0 0 0)) (σ.next+1) (rg (w.heap.size+1) 0 2 2)) (σ.next+1) 0 (.inr (by simp only[St.rng,St.new];omega))
   rw[upd_eq] at this;exact this
  ·have:b=w.heap.size∨b=w.heap.size+1:=by simpa using hb
   omega
end Go.Proofs.YtikedhemjoljpaaGreatDoor
namespace Go.Proofs
open Go.Shelf
def Tryz.lays219_ren:Go.Shelf.Ren:=⟨fun|219=>436|217=>320|225=>475|224=>476|267=>477|266=>368|314=>503|n=>n,fun|9=>9|3=>3|4=>4|5=>5|46=>420|146=>503|51=>418|n=>n,fun|1=>2|n=>n⟩
theorem Tryz.lays219:Go.Proofs.Lays.n219 Tryz.prog Tryz.lays219_ren:={
 mixed:=by kernel_rfl
 f217:=Tryz.func320.trans (congrArg some (by kernel_rfl))
 f219:=Tryz.func436.trans (congrArg some (by kernel_rfl))
 f224:=Tryz.func476.trans (congrArg some (by kernel_rfl))
 f225:=Tryz.func475.trans (congrArg some (by kernel_rfl))
 f266:=Tryz.func368.trans (congrArg some (by kernel_rfl))
 f267:=Tryz.func477.trans (congrArg some (by kernel_rfl))
 f314:=Tryz.func503.trans (congrArg some (by kernel_rfl))
 t3:=Tryz.underlying3
 a3:=Tryz.isAgg3
 z3:=Tryz.sizeOf3
 v3:=Tryz.zeroValue3
 t4:=Tryz.underlying4
 a4:=Tryz.isAgg4
 z4:=Tryz.sizeOf4
 v4:=Tryz.zeroValue4
 t5:=Tryz.underlying5
 a5:=Tryz.isAgg5
 z5:=Tryz.sizeOf5
 v5:=Tryz.zeroValue5
 t9:=Tryz.underlying9
 a9:=Tryz.isAgg9
 z9:=Tryz.sizeOf9
 v9:=Tryz.zeroValue9
 t46:=Tryz.underlying420
 a46:=Tryz.isAgg420
 z46:=Tryz.sizeOf420
 v46:=Tryz.zeroValue420
 t51:=Tryz.underlying418
 a51:=Tryz.isAgg418
 z51:=Tryz.sizeOf418
 v51:=Tryz.zeroValue418
 t146:=Tryz.underlying503
 a146:=Tryz.isAgg503
 z146:=Tryz.sizeOf503
 v146:=Tryz.zeroValue503
 g1:=by kernel_rfl}
open Go.RowKit Go.Lib in
theorem Tryz.stringslite_Index_one (s:ByteArray) (c:UInt8) (w:World):
 Calls Tryz.prog 436 #[.string s,.string ⟨#[c]⟩] w fun e w'=>e=.returned (.int .i64 (Lib.indexByte s.data.toList c))∧w'=w:=Any.stringslite_Index_one Tryz.lays219 s c w
open Go.RowKit Go.Lib in
theorem Tryz.stringslite_Index (s sub:ByteArray) (m:Int) (w:World) (hs:s.size<4294967281) (hm:w.cell? ⟨2,0,none⟩=some (.int .i64 m)):
 Calls Tryz.prog 436 #[.string s,.string sub] w fun e w'=>e=.returned (.int .i64 (Lib.index s.data.toList sub.data.toList))∧w'=w:=Any.stringslite_Index Tryz.lays219 s sub m w hs hm
end Go.Proofs
namespace Go.Proofs.YtikedhemjoljpaaGreatDoor
open Go Go.Eng
noncomputable def sumI (sum:FuncId→List Value→Option Value) (f:FuncId) (a:List Value):Option Value:=
 bif Nat.beq f 436 then match a with
  |[.string s,.string t]=>bif Nat.blt s.size 60 then some (.int .i64 (Lib.index s.data.toList t.data.toList)) else none
  |_=>none
 else sum f a
theorem env_idx {sum:FuncId→List Value→Option Value} {spec:FuncId→Option PSpec} (h:(envC sum spec).OK Tryz.prog):(envC (sumI sum) spec).OK Tryz.prog:=
 env_ok (fun f a v hs=>by
  unfold sumI at hs;cases hb:Nat.beq f 436
  ·rw[hb,cond_false] at hs;exact h.sum f a v hs
  ·rw[hb,cond_true] at hs;rw[beq_eq hb]
   split at hs
   ·rename_i s t;cases hl:Nat.blt s.size 60
    ·rw[hl] at hs;cases hs
    ·rw[hl,cond_true] at hs;cases hs;have hl:s.size<60:=by simpa using hl
     refine⟨rfl,rfl,fun w hw=> ?_⟩;obtain⟨u,hu,hr⟩:=hw.1 (2,[ai .i64]) (by simp[glC]) 0 (ai .i64) rfl;rcases hr with⟨hp,_⟩|⟨b,he,_⟩|⟨k,m,he,rfl⟩
     ·cases hp
     ·cases he
     ·cases he;refine(Tryz.stringslite_Index s t m w (by omega) hu).mono ?_;rintro e w' ⟨rfl,rfl⟩;exact⟨rfl,Nat.le_refl _,rfl,rfl,fun _ _=>rfl⟩
   ·cases hs) h.spec
end Go.Proofs.YtikedhemjoljpaaGreatDoor
namespace Go.Proofs.YtikedhemjoljpaaGreatDoor
open Go Go.Eng Nice
set_option maxRecDepth 1000000
noncomputable def cusB:FuncId→List Value→St→Option (Value×St×Foot):=fun f args σ=>
 bif Nat.beq f 47 then aTear args σ else bif Nat.beq f 131 then aDel (.int .i64 0) args σ else bif Nat.beq f 88 then aDel (.string ⟨#[]⟩) args σ else cus0 f args σ
theorem cusB_ok {E:Eng.Env} (hG:E.G=10) (hgl:E.gl=glC) {f:FuncId} {args:List Value} {σ σ':St} {v:Value} {φ:Foot} (h:cusB f args σ=some (v,σ',φ)):CusOK Tryz.prog E f args σ v σ' φ:=by
 unfold cusB at h;cases h1:Nat.beq f 47
 ·rw[h1,cond_false] at h;cases h2:Nat.beq f 131
  ·rw[h2,cond_false] at h;cases h3:Nat.beq f 88
   ·rw[h3,cond_false] at h;exact plainP_ok (E:=envS [(111,gmarkS)]) (envS_ok ⟨gmark_c,trivial⟩) hG hgl rfl h
   ·rw[h3,cond_true] at h;rw[beq_eq h3];exact aDel_cus rfl (fun b off n c i j vs w=>delS b off n c i j vs w) h
  ·rw[h2,cond_true] at h;rw[beq_eq h2];exact aDel_cus rfl (fun b off n c i j vs w=>delI b off n c i j vs w) h
 ·rw[h1,cond_true] at h;rw[beq_eq h1];exact aTear_cus h
noncomputable def idsC:Tr Unit:=idT [47,131,88,111]
noncomputable def idsS:Tr Unit:=idT [9,69,186,185,344,454,445,446,507,444,506,519,341,342,436]
def cmpT:List TypeId:=[117]
theorem cmpT_ok:cmpB Tryz.prog cmpT=true:=by kernel_rfl
noncomputable def envT (sum:FuncId→List Value→Option Value) (l:List Ent):Eng.Env:={ envC (fun f a=>only idsS f (sum f a)) spec0 with cus:=cusOr (tabT (mkT l)) (fun f args σ=>only idsC f (cusB f args σ)),conc:=true,cmp:=cmpOf (teOf tyT) cmpT}
def EO (e:Ent):Prop:=∀E:Eng.Env,E.G=10→E.gl=glC→EntOK Tryz.prog E e
def AllEO:List Ent→Prop
 |[]=>True
 |e::l=>EO e∧AllEO l
theorem allEO_mem:∀{l:List Ent},AllEO l→∀e,e∈l→EO e
 |e::l,h,x,hx=>by
  rcases List.mem_cons.1 hx with rfl|hx
  ·exact h.1
  ·exact allEO_mem h.2 x hx
abbrev SumOK (sum:FuncId→List Value→Option Value):Prop:=(envC sum spec0).OK Tryz.prog
theorem envT_ok {sum:FuncId→List Value→Option Value} (h:SumOK sum) {l:List Ent} (hl:AllEO l):(envT sum l).OK Tryz.prog:=
 ⟨h.T,h.fn,h.ext,fun f a v hs=>h.sum f a v (only_some hs),h.gl,h.mixed,h.spec,h.mnz,cmpOf_ok h.T cmpT_ok,h.osp,h.vsp,fun f args σ v σ' φ hc=>by
  unfold envT cusOr at hc;simp only at hc
  split at hc
  ·rename_i r hr;cases hc;exact tabT_ok (fun e he=>allEO_mem hl e he _ rfl rfl) hr
  ·exact cusB_ok rfl rfl (only_some hc)⟩
noncomputable def chk (sum:FuncId→List Value→Option Value) (l:List Ent) (e:Ent):Bool:=e.ok&&(e.shut&&(Nat.ble 10 e.n0&&e.good2 (kzRun Tryz.prog (envT sum l) 100000 e.f e.a e.s0)))
theorem eo {sum:FuncId→List Value→Option Value} (h:SumOK sum) {l:List Ent} (hl:AllEO l) {e:Ent} (hk:chk sum l e=true):EO e:=fun E hG hgl f args σ hh=>by
 unfold chk at hk;simp only[Bool.and_eq_true] at hk;exact Ent.cus2 (envT_ok h hl) hG hgl hk.2.2.2 hk.1 hk.2.1 hk.2.2.1 hh
@[reducible] def vI (n:Int):Value:=.int .i64 n
@[reducible] def vN:Value:=.pointer none
@[reducible] def vP (b o:Nat):Value:=.pointer (some ⟨b,o,none⟩)
@[reducible] def vS (b o l c:Nat):Value:=.slice (some ⟨b,o,none⟩) l c
@[reducible] def vU (b o l:Nat):Value:=.slice (some ⟨b,o,none⟩) l unk
noncomputable def bL (n:Nat):Nat→List UInt8→List UInt8:=Nat.rec (fun _ l=>l) (fun _ ih x l=>ih (x/256) (UInt8.ofNat (x%256)::l)) n
noncomputable def bN (n x:Nat):ByteArray:=⟨⟨bL n x []⟩⟩
def v0:Value:=.string ⟨#[]⟩
noncomputable def vB (n x:Nat):Value:=.string (bN n x)
@[reducible] def oR (cs:List Value) (e:TypeId):AO:=.row cs e false
end Go.Proofs.YtikedhemjoljpaaGreatDoor
