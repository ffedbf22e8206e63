/-
  Part of the proof: BkN IdxF BkM ShMa ShMb ShMc BkP BkL LawPg BkW. No condition.
-/
import Derived.Test.YtldllfocpadkeaaGreatDoorG7
import Derived.Test.YtldllfocpadkeaaGreatDoorEng11
import Derived.Test.YtldllfocpadkeaaGreatDoorG5
import Derived.Test.YtldllfocpadkeaaGreatDoorG4
import Derived.Deep.LoopGhost
import Derived.Test.YtldllfocpadkeaaGreatDoorRow
import Derived.Test.YtldllfocpadkeaaGreatDoorBegE
namespace Nice
open Go Go.Eng
abbrev IT:Ty:=.int .i64
abbrev ResT:Ty:=.pair IT (.pair IT .unit)
abbrev MemoT:Ty:=.pair IT (.pair ResT .unit)
abbrev LowT:Ty:=.pair IT (.pair IT (.pair IT (.pair IT (.pair IT .unit))))
abbrev StT:Ty:=.pair IT (.pair (.slice EntT) (.pair (.slice MemoT) (.pair LowT .unit)))
abbrev MemoD:=Int×(Int×Int×Unit)×Unit
abbrev LowD:=Int×Int×Int×Int×Int×Unit
abbrev StD:=Int×List EntD×List MemoD×LowD×Unit
abbrev IO1:=Option (DenL [IT])
def homeN (n:Int):Int:=bif decide (n<4294967296) then 0 else bif decide (n≥25769803776) then 0 else bif n.tmod 4294967296==0 then 0 else n.tdiv 4294967296
theorem homeN_cases (n:Int):homeN n=0∨homeN n=1∨homeN n=2∨homeN n=3∨homeN n=4∨homeN n=5:=by
 unfold homeN;by_cases h1:n<4294967296
 ·rw[decide_eq_true h1];exact .inl rfl
 rw[decide_eq_false h1];by_cases h2:n≥25769803776
 ·rw[decide_eq_true h2];exact .inl rfl
 rw[decide_eq_false h2];cases n.tmod 4294967296==0
 ·right;have e:n.tdiv 4294967296=n/4294967296:=Int.tdiv_eq_ediv_of_nonneg (by omega);show n.tdiv 4294967296=1∨n.tdiv 4294967296=2∨n.tdiv 4294967296=3∨n.tdiv 4294967296=4∨n.tdiv 4294967296=5;rw[e];omega
 ·exact .inl rfl
noncomputable def homeS:PSpec:=⟨[IT],[IT],fun _=>true,fun x=>(homeN x.1,())⟩
def allFr (p:Nat→Bool):Nat→Nat→Bool
 |0,_=>true
 |r+1,i=>p i&&allFr p r (i+1)
theorem allFr_iff {p:Nat→Bool}:∀{r i:Nat},allFr p r i=true↔∀k,i≤k→k<i+r→p k=true
 |0,i=>⟨fun _ k h1 h2=>absurd h2 (by omega),fun _=>rfl⟩
 |r+1,i=>by
  show(p i&&allFr p r (i+1))=true↔_;rw[Bool.and_eq_true,allFr_iff];constructor
  ·rintro⟨h1,h2⟩ k k1 k2;by_cases e:k=i
   ·subst e;exact h1
   ·exact h2 k (by omega) (by omega)
  ·exact fun h=>⟨h i (Nat.le_refl _) (by omega),fun k k1 k2=>h k (by omega) (by omega)⟩
def entAt (l:List EntD) (i:Nat):EntD:=l.getD i (EntT).dflt
def lastV (e:EntD):VerD:=e.2.1.getD (e.2.1.length-1) (VerT).dflt
def bEnt (q:Int) (l:List EntD) (i:Nat):Bool:=entB (entAt l i)&&(decide ((lastV (entAt l i)).1≤q)&&(Nat.beq i 0||Op.bytesLess (entAt l (i-1)).1 (entAt l i).1))
def bLow (x k:Int):Bool:=x==0||homeN x==k
def bLows (L:LowD):Bool:=bLow L.1 1&&(bLow L.2.1 2&&(bLow L.2.2.1 3&&(bLow L.2.2.2.1 4&&bLow L.2.2.2.2.1 5)))
def lowAt (L:LowD) (h:Int):Int:=bif h==1 then L.1 else bif h==2 then L.2.1 else bif h==3 then L.2.2.1 else bif h==4 then L.2.2.2.1 else L.2.2.2.2.1
def memAt (m:List MemoD) (i:Nat):MemoD:=m.getD i (MemoT).dflt
def bRes (q:Int) (m:MemoD):Bool:=decide (0≤m.2.1.1)&&(decide (m.2.1.1≤13)&&(decide (0≤m.2.1.2.1)&&decide (m.2.1.2.1≤q)))
def bMem (q:Int) (L:LowD) (m:List MemoD) (i:Nat):Bool:= !(homeN (memAt m i).1==0)&&(decide (lowAt L (homeN (memAt m i).1)≤(memAt m i).1)&&((Nat.beq i 0||decide ((memAt m (i-1)).1<(memAt m i).1))&&bRes q (memAt m i)))
def bmayN (s:StD):Bool:=decide (0≤s.1)&&(decide (s.1≤1099511627776)&&(decide (s.2.1.length≤40)&&(decide (s.2.2.1.length≤100)&&(allFr (bEnt s.1 s.2.1) s.2.1.length 0&&(bLows s.2.2.2.1&&allFr (bMem s.1 s.2.2.2.1 s.2.2.1) s.2.2.1.length 0)))))
def bmayP (s:StD):Bool:=s.2.1.all entP
noncomputable def bmayS:PSpec:=⟨[StT],[.bool],fun x=>bmayP x.1,fun x=>(bmayN x.1,())⟩
theorem entB_len {e:EntD} (h:entB e=true):1≤e.2.1.length∧e.2.1.length≤12:=by
 unfold entB at h;simp only[Bool.and_eq_true,decide_eq_true_eq] at h;exact h.2.2
theorem gdL {α:Type} {ps:List Bool} {x:Option α} (h:∀p,p∈ps→p=true):gd ps x=x:=by
 induction ps with
 |nil=>exact xG _
 |cons p r ih=>
  rw[h p (List.mem_cons_self ..)];exact(gdB rfl).trans (ih fun p hp=>h p (List.mem_cons_of_mem _ hp))
end Nice
set_option maxRecDepth 100000
namespace Nice
open Go Go.Eng
def idxF1 {α:Type} (p:α→Bool):List α→Nat→Int
 |[],_=> -1
 |y::r,i=>if p y then(i:Int) else idxF1 p r (i+1)
def idxV (l:List VerD) (ver:Int):Int:=idxF1 (fun y=>y.1==ver) l 0
def idxK (l:List EntD) (key:List UInt8):Int:=idxF1 (fun y=>y.1==key) l 0
noncomputable def idxVS:PSpec:=⟨[.slice VerT,.clo 204 (.pair (.ref IT) .unit)],[IT],fun x=>decide (x.1.length≤1000000),fun x=>(idxV x.1 x.2.1.1,())⟩
noncomputable def idxKS:PSpec:=⟨[.slice EntT,.clo 101 (.pair (.ref .str) .unit)],[IT],fun x=>decide (x.1.length≤1000000),fun x=>(idxK x.1 x.2.1.1,())⟩
theorem idx_of {α β : Type} [Inhabited β] (p : β → Bool) (q : α → Bool) (d : β) : ∀ (l : List α) (zs : List β) (i : Nat), zs.length = l.length → (∀ j (h : j < l.length), p zs[j]! = q l[j]) → Lib.idxByFrom (fun _ y => p y) d zs i = idxF1 q l i
  | [], [], _, _, _ => rfl
  | [], _ :: _, _, h, _ => by simp at h
  | _ :: _, [], _, h, _ => by simp at h
  | x :: l, z :: zs, i, h, hp => by
    have h0 : p z = q x := hp 0 (by simp)
    show (if p z = true then (i : Int) else Lib.idxByFrom _ d zs (i + 1)) = if q x = true then (i : Int) else idxF1 q l (i + 1)
    have h1 : ∀ j (hj : j < l.length), p zs[j]! = q l[j] := fun j hj => by
      have := hp (j + 1) (by simpa using hj)
      rw [List.getElem_cons_succ] at this
      rw [← this]; simp
    rw [h0, idx_of p q d l zs (i + 1) (by simpa using h) h1]
end Nice
namespace Go.Proofs.YtldllfocpadkeaaGreatDoor
open Go Go.Eng Nice Go.RowKit
theorem clo_arg {fz:Nat→Option (Array Value)} {w:World} (hz:FzOK fz w) {f:Nat} {t:Ty} {x:t.Den} {v:Value} (h1:t.sz=1) (h:RdV fz (.clo f (.pair (.ref t) .unit)) (x,()) v):
  ∃(b o:Nat) (u:Value),v=.func (.func f) #[] #[.pointer (some ⟨b,o,none⟩)]∧b<w.heap.size∧w.cell? ⟨b,o,none⟩=some u∧RdC fz t x [u]:=by
 rcases h with⟨h, -⟩|⟨-,us,e1,c1,c2,rfl,⟨b,o,arr,rfl,e2,e3,e4⟩,e5⟩
 ·cases h
 obtain rfl:c2=[]:=e5;obtain⟨el,fr,hh⟩:=hz b arr e2;rw[h1] at e3 e4;have ho:o<arr.size:=by omega
 have e6:(arr.toList.drop o).take 1=[arr[o]]:=by
  rw[List.drop_eq_getElem_cons (by simpa using ho),List.take_succ_cons,List.take_zero];simp
 rw[e6] at e4;refine⟨b,o,arr[o],?_,(Array.getElem?_eq_some_iff.1 hh).1,?_,e4⟩
 ·have:=List.cons.inj e1;simpa using this.1
 ·simp only[World.cell?,hh,Option.isSome_none,Bool.false_eq_true,if_false];exact Array.getElem?_eq_getElem ho
theorem list_cells {fz:Nat→Option (Array Value)} {w:World} (hz:FzOK fz w) {t:Ty} {xs:List t.Den} {v:Value} (h:RdV fz (.slice t) xs v):
  ((∃q c,v=.slice q 0 c)∧xs=[])∨∃(b o c:Nat) (arr:Array Value),v=.slice (some ⟨b,o,none⟩) xs.length c∧b<w.heap.size∧o+xs.length*t.sz≤arr.size∧(∀i x,xs[i]?=some x→RdC fz t x ((arr.toList.drop (o+i*t.sz)).take t.sz))∧∀k u,arr[k]?=some u→w.cell? ⟨b,k,none⟩=some u:=by
 rcases h with⟨h, -⟩|⟨-,sv,e1,h⟩
 ·cases h
 obtain rfl:v=sv:=(List.cons.inj e1).1;rcases h with⟨⟨q,c,rfl⟩,rfl⟩|⟨b,o,c,arr,rfl,e2,e3, -,e5⟩
 ·exact .inl ⟨⟨q,c,rfl⟩,rfl⟩
 ·obtain⟨el,fr,hh⟩:=hz b arr e2;refine .inr ⟨b,o,c,arr,rfl,(Array.getElem?_eq_some_iff.1 hh).1,e3,e5,fun k u hu=> ?_⟩;simp only[World.cell?,hh,Option.isSome_none,Bool.false_eq_true,if_false];exact hu
theorem take_drop_get {arr:Array Value} {p n i:Nat} {u:Value} (h:((arr.toList.drop p).take n)[i]?=some u):arr[p+i]?=some u:=by
 rw[List.getElem?_take] at h
 split at h
 ·rw[List.getElem?_drop,Array.getElem?_toList] at h;exact h
 ·cases h
open Go.Shelf in
theorem idxV_empty (a:Option Addr) (c:Nat) (fv:Value) (w:World):Calls Tryz.prog 203 #[.slice a 0 c,fv] w fun e w'=>e=.returned (.int .i64 (-1))∧w'=w:=by
 have mixed:=Tryz.laysIdxV.mixed
 go_enter Tryz.func203,Tryz.ntmps203
 go_wp2
 go_loopg [5,8] 0 (fun _ _ s8 wr=>s8=.int .i64 0∧wr=w)
 case atStart=>exact⟨rfl,rfl⟩
 case round=>
  obtain⟨rfl,rfl⟩:=hrel
  go_wp2
  go_ret
  exact⟨rfl,rfl⟩
open Go.Shelf in
theorem idxE_empty (a:Option Addr) (c:Nat) (fv:Value) (w:World):Calls Tryz.prog 100 #[.slice a 0 c,fv] w fun e w'=>e=.returned (.int .i64 (-1))∧w'=w:=by
 have mixed:=Tryz.laysIdxE.mixed
 go_enter Tryz.func100,Tryz.ntmps100
 go_wp2
 go_loopg [5,8] 0 (fun _ _ s8 wr=>s8=.int .i64 0∧wr=w)
 case atStart=>exact⟨rfl,rfl⟩
 case round=>
  obtain⟨rfl,rfl⟩:=hrel
  go_wp2
  go_ret
  exact⟨rfl,rfl⟩
theorem pc_mkF {f:FuncId} {S:PSpec} (h:∀(fz:Nat→Option (Array Value)) (w:World) (args:Array Value) (x:DenL S.ts),FzOK fz w→GlW glC w→RdAll fz S.ts x args.toList→S.pre x=true→
  Calls Tryz.prog f args w fun e w'=>∃vs,e=.returned (resV vs)∧RdAll fz S.rs (S.g x) vs∧Same w w'):PC f S:=by
 intro fz w args x hfz hgl hr hp;refine(h fz w args x hfz hgl hr hp).mono ?_;rintro e w' ⟨vs,rfl,hv,hs⟩;have hlt:∀b c,fz b=some c→b<w.heap.size:=fun b c hb=>by
  obtain⟨e,fr,h⟩:=hfz b c hb;exact(Array.getElem?_eq_some_iff.1 h).1
 exact⟨vs,fz,rfl,fun _ _ h=>h,hfz.keep fun b c hb=>hs.2.2.2 b (hlt b c hb),fun _ _ h=>.inl h,hv,hs⟩
theorem same_refl (w:World):Same w w:=⟨Nat.le_refl _,rfl,rfl,fun _ _=>rfl⟩
theorem rd_int {fz:Nat→Option (Array Value)} (n:Int):RdAll fz [IT] (n,()) [.int .i64 n]:=⟨_,_,rfl,.inr ⟨rfl,rfl⟩,rfl⟩
open Go.Shelf in
theorem idxV_c : PC 203 idxVS := pc_mkF fun fz w args x hfz hgl hr hp => by
  obtain ⟨l, ⟨ver, ⟨⟩⟩, ⟨⟩⟩ := x
  have hl : l.length ≤ 1000000 := of_decide_eq_true hp
  obtain ⟨v1, r1, e1, h1, hr1⟩ := hr
  obtain ⟨v2, r2, rfl, h2, hr2⟩ := hr1
  obtain rfl : r2 = [] := hr2
  obtain ⟨b, o, u, rfl, hb, hc, hu⟩ := clo_arg hfz (t := IT) rfl h2
  obtain rfl : u = .int .i64 ver := (List.cons.inj hu).1
  have ha : args = #[v1, .func (.func 204) #[] #[.pointer (some ⟨b, o, none⟩)]] := Array.toList_inj.1 e1
  subst ha
  rcases list_cells hfz h1 with ⟨⟨q, c, rfl⟩, rfl⟩ | ⟨B, O, C, arr, rfl, hB, hsz, hrd, hcell⟩
  · refine (idxV_empty q c _ w).mono ?_
    rintro e w' ⟨rfl, rfl⟩
    exact ⟨[_], rfl, rd_int _, same_refl _⟩
  · have hcon := AnyQ.slices_IndexFunc Tryz.laysIdxV 3 Tryz.isAgg86 Tryz.sizeOf86 encV (fun _ => rfl) (fun x => x.1 == ver) 204 #[.pointer (some ⟨b, o, none⟩)] (enters_of Tryz.func204 (by kernel_rfl) rfl) B O l.length C
      (l.map fun v => (v.1, v.2.1, bs v.2.2.1)) w (Tryz.isVer ver b o w hb hc) (by rw [List.length_map]; exact Nat.le_refl _) (by omega) hB (fun j hj i v hi => by
        rw [List.length_map] at hj
        have hg : (l.map fun v => (v.1, v.2.1, bs v.2.2.1))[j]! = ((l[j]).1, (l[j]).2.1, bs (l[j]).2.2.1) := by
          rw [getElem!_pos _ _ (by rw [List.length_map]; exact hj)]; simp
        rw [hg] at hi
        have hr := hrd j l[j] (List.getElem?_eq_getElem hj)
        have he : (arr.toList.drop (O + j * 3)).take 3 = encV ((l[j]).1, (l[j]).2.1, bs (l[j]).2.2.1) := by
          obtain ⟨c1, c2, e1, f1, d1, d2, rfl, f2, d3, d4, rfl, f3, f4⟩ := hr
          rw [show VerT.sz = 3 from rfl] at e1
          rw [e1, f1, f2, f3, f4]; rfl
        rw [← he] at hi
        exact hcell _ _ (take_drop_get hi))
    refine hcon.mono ?_
    rintro e w' ⟨rfl, hbw⟩
    refine ⟨[_], rfl, ?_, same_of hbw⟩
    have : Lib.idxBy (fun _ (y : Int × Bool × ByteArray) => y.1 == ver) ((l.map fun v => (v.1, v.2.1, bs v.2.2.1)).take l.length) default = idxV l ver := by
      rw [List.take_of_length_le (by rw [List.length_map]; exact Nat.le_refl _)]
      refine idx_of (fun (y : Int × Bool × ByteArray) => y.1 == ver) (fun y => y.1 == ver) default l _ 0 (List.length_map ..) fun j hj => ?_
      rw [getElem!_pos _ _ (by rw [List.length_map]; exact hj)]; simp
    rw [this]
    exact rd_int _
open Go.Shelf in
theorem idxK_c : PC 100 idxKS := pc_mkF fun fz w args x hfz hgl hr hp => by
  obtain ⟨l, ⟨key, ⟨⟩⟩, ⟨⟩⟩ := x
  have hl : l.length ≤ 1000000 := of_decide_eq_true hp
  obtain ⟨v1, r1, e1, h1, hr1⟩ := hr
  obtain ⟨v2, r2, rfl, h2, hr2⟩ := hr1
  obtain rfl : r2 = [] := hr2
  obtain ⟨b, o, u, rfl, hb, hc, hu⟩ := clo_arg hfz (t := .str) rfl h2
  obtain rfl : u = .string (bs key) := (List.cons.inj hu).1
  have ha : args = #[v1, .func (.func 101) #[] #[.pointer (some ⟨b, o, none⟩)]] := Array.toList_inj.1 e1
  subst ha
  rcases list_cells hfz h1 with ⟨⟨q, c, rfl⟩, rfl⟩ | ⟨B, O, C, arr, rfl, hB, hsz, hrd, hcell⟩
  · refine (idxE_empty q c _ w).mono ?_
    rintro e w' ⟨rfl, rfl⟩
    exact ⟨[_], rfl, rd_int _, same_refl _⟩
  · have hz : ∀ j (hj : j < l.length), ((List.range l.length).map fun j => (bs (l.getD j (EntT).dflt).1, ((arr.toList.drop (O + j * 2)).take 2).getD 1 undef))[j]! = (bs (l[j]).1, ((arr.toList.drop (O + j * 2)).take 2).getD 1 undef) := fun j hj => by
      rw [getElem!_pos _ _ (by rw [List.length_map, List.length_range]; exact hj)]
      simp only [List.getElem_map, List.getElem_range]
      rw [List.getD_eq_getElem?_getD, List.getElem?_eq_getElem hj]; rfl
    have hzl : ((List.range l.length).map fun j => (bs (l.getD j (EntT).dflt).1, ((arr.toList.drop (O + j * 2)).take 2).getD 1 undef)).length = l.length := by rw [List.length_map, List.length_range]
    have hcon := AnyQ.slices_IndexFunc Tryz.laysIdxE 2 Tryz.isAgg44 Tryz.sizeOf44 encE (fun _ => rfl) (fun x => x.1.toList == (bs key).toList) 101 #[.pointer (some ⟨b, o, none⟩)] (enters_of Tryz.func101 (by kernel_rfl) rfl) B O l.length C
      ((List.range l.length).map fun j => (bs (l.getD j (EntT).dflt).1, ((arr.toList.drop (O + j * 2)).take 2).getD 1 undef)) w (Tryz.isKey (bs key) b o w hb hc) (by rw [hzl]; exact Nat.le_refl _) (by omega) hB (fun j hj i v hi => by
        rw [hzl] at hj
        rw [hz j hj] at hi
        have hr := hrd j l[j] (List.getElem?_eq_getElem hj)
        have he : (arr.toList.drop (O + j * 2)).take 2 = encE (bs (l[j]).1, ((arr.toList.drop (O + j * 2)).take 2).getD 1 undef) := by
          obtain ⟨c1, c2, e1, f1, d1, d2, rfl, ⟨sv, f2, -⟩, f3⟩ := hr
          rw [show EntT.sz = 2 from rfl] at e1
          rw [e1, f1, f2, f3]; rfl
        rw [← he] at hi
        exact hcell _ _ (take_drop_get hi))
    refine hcon.mono ?_
    rintro e w' ⟨rfl, hbw⟩
    refine ⟨[_], rfl, ?_, same_of hbw⟩
    have : Lib.idxBy (fun _ (y : ByteArray × Value) => y.1.toList == (bs key).toList) (((List.range l.length).map fun j => (bs (l.getD j (EntT).dflt).1, ((arr.toList.drop (O + j * 2)).take 2).getD 1 undef)).take l.length) default = idxK l key := by
      rw [List.take_of_length_le (by rw [hzl]; exact Nat.le_refl _)]
      refine idx_of (fun (y : ByteArray × Value) => y.1.toList == (bs key).toList) (fun y => y.1 == key) default l _ 0 hzl fun j hj => ?_
      rw [hz j hj]
      show ((bs (l[j]).1).toList == (bs key).toList) = _
      rw [toList_toL, toList_toL, toL_bs, toL_bs]
    rw [this]
    exact rd_int _
end Go.Proofs.YtldllfocpadkeaaGreatDoor
namespace Nice
open Go Go.Eng
noncomputable def homeE (n:Int):IO1:=bif decide (n<4294967296) then some (0,()) else bif decide (n≥25769803776) then some (0,()) else bif n.tmod 4294967296==0 then some (0,()) else gd [decide (inK .i64 (n.tdiv 4294967296))] (some (n.tdiv 4294967296,()))
theorem homeE_n (n:Int):homeE n=some (homeN n,()):=by
 unfold homeE homeN;by_cases h1:n<4294967296
 ·rw[cdT h1,cdT h1]
 rw[cdF h1,cdF h1];by_cases h2:n≥25769803776
 ·rw[cdT h2,cdT h2]
 rw[cdF h2,cdF h2];cases n.tmod 4294967296==0
 ·rw[xF,xF];have e:n.tdiv 4294967296=n/4294967296:=Int.tdiv_eq_ediv_of_nonneg (by omega);rw[gdT (inK_i64.2 (by rw[e];omega)),xG]
 ·rw[xT,xT]
noncomputable abbrev gPx {α:Type} (l:List α) (i:Int):List Bool:=[decide ((i-1).toNat<l.length),decide (0≤i-1),decide (i-1<(l.length:Int)),decide (inK .i64 (i-1))]
noncomputable abbrev gZ (e:EntD):List Bool:=[decide (((e.2.1.length:Int)-1).toNat<e.2.1.length),decide (0≤(e.2.1.length:Int)-1),decide ((e.2.1.length:Int)-1<(e.2.1.length:Int)),decide (inK .i64 ((e.2.1.length:Int)-1)),entP (e.1,e.2.1,())]
noncomputable def bmE (q:Int) (l:List EntD) (i:Int) (e:EntD) (nx:BO):BO:=
 bif entB (e.1,e.2.1,()) then(bif decide ((e.2.1.getD ((e.2.1.length:Int)-1).toNat (VerT).dflt).1>q) then gd (gZ e) (bO false)
  else bif decide (i>0) then(bif !Op.bytesLess (l.getD (i-1).toNat (EntT).dflt).1 e.1 then gd (gPx l i++gZ e) (bO false) else gd (decide (inK .i64 (i+1))::(gPx l i++gZ e)) nx)
  else gd (decide (inK .i64 (i+1))::gZ e) nx)
 else gd [entP (e.1,e.2.1,())] (bO false)
noncomputable def bmStep (q:Int) (l l2:List EntD) (k i:Int) (nx ex:BO):BO:=
 bif decide (i<k) then gd [decide (i.toNat<l2.length),decide (0≤i),decide (i<(l2.length:Int))] (bmE q l i (l2.getD i.toNat (EntT).dflt) nx) else ex
def lowE (x k:Int) (nx:BO):BO:=bif x !=0 then(bif homeN x !=k then bO false else nx) else nx
def lowsE (L:LowD) (nx:BO):BO:=lowE L.1 1 (lowE L.2.1 2 (lowE L.2.2.1 3 (lowE L.2.2.2.1 4 (lowE L.2.2.2.2.1 5 nx))))
theorem lowE_n {x k:Int} {b:Bool} {nx:BO} (h:nx=bO b):lowE x k nx=bO (bLow x k&&b):=by
 unfold lowE bLow;by_cases h1:x=0
 ·rw[show(x !=0)=false from by rw[bne_eq_false_iff_eq];exact h1,show(x==0)=true from beq_iff_eq.2 h1,xF,h];rfl
 ·rw[show(x !=0)=true from bne_iff_ne.2 h1,show(x==0)=false from beq_eq_false_iff_ne.2 h1,xT,Bool.false_or];by_cases h2:homeN x=k
  ·rw[show(homeN x !=k)=false from by rw[bne_eq_false_iff_eq];exact h2,show(homeN x==k)=true from beq_iff_eq.2 h2,xF,h];rfl
  ·rw[show(homeN x !=k)=true from bne_iff_ne.2 h2,show(homeN x==k)=false from beq_eq_false_iff_ne.2 h2,xT];rfl
theorem lowsE_n {L:LowD} {b:Bool} {nx:BO} (h:nx=bO b):lowsE L nx=bO (bLows L&&b):=by
 unfold lowsE bLows;rw[lowE_n (lowE_n (lowE_n (lowE_n (lowE_n h))))];simp only[Bool.and_assoc]
noncomputable def selB (L:LowD) (k:Int) (f:Int→BO):BO:=bif k==0 then f L.1 else bif k==1 then f L.2.1 else bif k==2 then f L.2.2.1 else bif k==3 then f L.2.2.2.1 else bif k==4 then f L.2.2.2.2.1 else none
noncomputable def resE (q:Int) (m:MemoD) (i:Int) (nx:BO):BO:=
 bif decide (m.2.1.1<0) then bO false else bif decide (m.2.1.1>13) then bO false else bif decide (m.2.1.2.1<0) then bO false else bif decide (m.2.1.2.1>q) then bO false else gd [decide (inK .i64 (i+1))] nx
theorem resE_n {q:Int} {m:MemoD} {i:Int} {b:Bool} {nx:BO} (hi:inK .i64 (i+1)) (h:nx=bO b):resE q m i nx=bO (bRes q m&&b):=by
 unfold resE bRes;by_cases h1:m.2.1.1<0
 ·rw[cdT h1,decide_eq_false (show ¬0≤m.2.1.1 by omega)];rfl
 rw[cdF h1,decide_eq_true (show 0≤m.2.1.1 by omega)];by_cases h2:m.2.1.1>13
 ·rw[cdT h2,decide_eq_false (show ¬m.2.1.1≤13 by omega)];rfl
 rw[cdF h2,decide_eq_true (show m.2.1.1≤13 by omega)];by_cases h3:m.2.1.2.1<0
 ·rw[cdT h3,decide_eq_false (show ¬0≤m.2.1.2.1 by omega)];rfl
 rw[cdF h3,decide_eq_true (show 0≤m.2.1.2.1 by omega)];by_cases h4:m.2.1.2.1>q
 ·rw[cdT h4,decide_eq_false (show ¬m.2.1.2.1≤q by omega)];rfl
 rw[cdF h4,decide_eq_true (show m.2.1.2.1≤q by omega),gdT hi,xG,h];rfl
noncomputable def memE (q:Int) (L:LowD) (m:List MemoD) (i:Int) (x:MemoD) (nx:BO):BO:=
 bif homeN x.1==0 then bO false else selB L (homeN x.1-1) fun lo=>bif decide (x.1<lo) then gd [decide (inK .i64 (homeN x.1-1))] (bO false)
  else bif decide (i>0) then(bif decide ((m.getD (i-1).toNat (MemoT).dflt).1≥x.1) then gd (gPx m i++[decide (inK .i64 (homeN x.1-1))]) (bO false) else gd (gPx m i++[decide (inK .i64 (homeN x.1-1))]) (resE q x i nx))
  else gd [decide (inK .i64 (homeN x.1-1))] (resE q x i nx)
noncomputable def memStep (q:Int) (L:LowD) (m m2:List MemoD) (k i:Int) (nx:BO):BO:=
 bif decide (i<k) then gd [decide (i.toNat<m2.length),decide (0≤i),decide (i<(m2.length:Int))] (memE q L m i (m2.getD i.toNat (MemoT).dflt) nx) else bO true
theorem selB_n {L:LowD} {h:Int} (hh:h=1∨h=2∨h=3∨h=4∨h=5) (f:Int→BO):selB L (h-1) f=f (lowAt L h):=by
 rcases hh with rfl|rfl|rfl|rfl|rfl<;>rfl
theorem gPx_ok {α β:Type} {l:List α} {i:Nat} (h0:0<i) (h1:i<l.length) (h2:l.length≤1000) (y:Option β) (ps:List Bool):gd (gPx l (i:Int)++ps) y=gd ps y:=by
 unfold gPx;simp only[List.cons_append,List.nil_append];rw[gdT (by omega),gdT (by omega),gdT (by omega),gdT (inK_i64.2 ⟨by omega,by omega⟩)]
theorem bmE_n {q:Int} {l:List EntD} {i:Nat} {b:Bool} {nx:BO} (hl:l.length≤40) (hi:i<l.length) (hp:entP (entAt l i)=true) (h:nx=bO b):bmE q l (i:Int) (entAt l i) nx=bO (bEnt q l i&&b):=by
 have hk:inK .i64 ((i:Int)+1):=inK_i64.2 ⟨by omega,by omega⟩;have hp':entP ((entAt l i).1,(entAt l i).2.1,())=true:=hp;have he:entB ((entAt l i).1,(entAt l i).2.1,())=entB (entAt l i):=rfl;unfold bmE bEnt;rw[he];cases hb:entB (entAt l i)
 ·rw[xF,gdB hp',xG];rfl
 ·obtain⟨n1,n2⟩:=entB_len hb;have e1:(((entAt l i).2.1.length:Int)-1).toNat=(entAt l i).2.1.length-1:=by omega
  have hz:∀y:BO,gd (gZ (entAt l i)) y=y:=fun y=>by
   unfold gZ;rw[gdT (by omega),gdT (by omega),gdT (by omega),gdT (inK_i64.2 ⟨by omega,by omega⟩),gdB hp',xG]
  have hv:(entAt l i).2.1.getD (((entAt l i).2.1.length:Int)-1).toNat (VerT).dflt=lastV (entAt l i):=by rw[e1];rfl
  rw[xT,hv,Bool.true_and];by_cases h1:(lastV (entAt l i)).1>q
  ·rw[cdT h1,hz,decide_eq_false (show ¬(lastV (entAt l i)).1≤q by omega)];rfl
  rw[cdF h1,decide_eq_true (show(lastV (entAt l i)).1≤q by omega),Bool.true_and];by_cases h0:i=0
  ·subst h0;rw[cdF (by omega),gdT hk,hz,h];rfl
  ·have e2:((i:Int)-1).toNat=i-1:=by omega
   have e3:Nat.beq i 0=false:=by cases i with
    |zero=>exact absurd rfl h0
    |succ n=>rfl
   rw[cdT (by omega),e2,e3,Bool.false_or];show(bif !Op.bytesLess (entAt l (i-1)).1 (entAt l i).1 then _ else _)=_;cases Op.bytesLess (entAt l (i-1)).1 (entAt l i).1
   ·rw[show(!false)=true from rfl,xT,gPx_ok (by omega) hi (by omega),hz];rfl
   ·rw[show(!true)=false from rfl,xF,gdT hk,gPx_ok (by omega) hi (by omega),hz,h];rfl
theorem memE_n {q:Int} {L:LowD} {m:List MemoD} {i:Nat} {b:Bool} {nx:BO} (hl:m.length≤100) (hi:i<m.length) (h:nx=bO b):memE q L m (i:Int) (memAt m i) nx=bO (bMem q L m i&&b):=by
 have hk:inK .i64 ((i:Int)+1):=inK_i64.2 ⟨by omega,by omega⟩;unfold memE bMem;have hc:=homeN_cases (memAt m i).1;cases h0:homeN (memAt m i).1==0
 ·have h0':homeN (memAt m i).1≠0:=by simpa using h0
  have hh:inK .i64 (homeN (memAt m i).1-1):=inK_i64.2 ⟨by omega,by omega⟩;rw[xF,selB_n (by omega),show(!false)=true from rfl,Bool.true_and];by_cases h1:(memAt m i).1<lowAt L (homeN (memAt m i).1)
  ·rw[cdT h1,decide_eq_false (show ¬lowAt L (homeN (memAt m i).1)≤(memAt m i).1 by omega),gdT hh,xG];rfl
  rw[cdF h1,decide_eq_true (show lowAt L (homeN (memAt m i).1)≤(memAt m i).1 by omega),Bool.true_and];by_cases hi0:i=0
  ·subst hi0;rw[cdF (by omega),gdT hh,xG,resE_n hk h];rfl
  ·have e2:((i:Int)-1).toNat=i-1:=by omega
   have e3:Nat.beq i 0=false:=by cases i with
    |zero=>exact absurd rfl hi0
    |succ n=>rfl
   rw[cdT (by omega),e2,e3,Bool.false_or];show(bif decide ((memAt m (i-1)).1≥(memAt m i).1) then _ else _)=_;by_cases h2:(memAt m (i-1)).1≥(memAt m i).1
   ·rw[cdT h2,gPx_ok (by omega) hi (by omega),gdT hh,xG,decide_eq_false (show ¬(memAt m (i-1)).1<(memAt m i).1 by omega)];rfl
   ·rw[cdF h2,gPx_ok (by omega) hi (by omega),gdT hh,xG,resE_n hk h,decide_eq_true (show(memAt m (i-1)).1<(memAt m i).1 by omega),Bool.true_and]
 ·rw[xT];rfl
end Nice
namespace Go.Proofs.YtldllfocpadkeaaGreatDoor
open Go Go.Eng Nice
set_option maxRecDepth 1000000
noncomputable def ohome (x:DenL [IT]):IO1:=fO Tryz.prog (envS []) (shOf []) Tryz.f93 [IT] [IT] x
theorem ehome (n:Int):ohome (n,())=homeE n:=by kernel_rfl
theorem home_c:PC 93 homeS:=(pureO (envS_ok (l:=[]) trivial) gl_ne Tryz.func93 (by kernel_rfl) (by decide)).nice fun⟨n,()⟩ _=>by
 show ohome _=_;rw[ehome];exact homeE_n n
abbrev shbm:List (Nat×List (Nat×Sh)):=[(4,[(1,(.obj [.sym,(.dat EntT),(.dat MemoT),.sym,.sym,.sym,.sym,.sym])),(2,(.one .sym)),(31,(.one (.dat EntT))),(32,(.one .sym)),(33,(.one .sym))]),(16,[(1,(.obj [.sym,(.dat EntT),(.dat MemoT),.sym,.sym,.sym,.sym,.sym])),(2,(.one .sym)),(89,(.one (.dat MemoT))),(90,(.one .sym)),(91,(.one .sym))])]
noncomputable abbrev enBM:Eng.Env:=envS [(92,entS),(93,homeS)]
abbrev rowBM (q:Int) (L:LowD):AO:=.row [sy (.int .i64 q),dt 10,dt 11,sy (.int .i64 L.1),sy (.int .i64 L.2.1),sy (.int .i64 L.2.2.1),sy (.int .i64 L.2.2.2.1),sy (.int .i64 L.2.2.2.2.1)] 26 false
noncomputable def hbm0 (N:Nat) (q:Int) (l:List EntD) (m:List MemoD) (a b c d e:Int) (l2:List EntD) (k i:Int):BO:=rH Tryz.prog enBM (shOf shbm) Tryz.f52 [.bool] N 0 [(1,.pointer (some ⟨12,0,none⟩)),(2,.bool false),(31,dt 13),(32,sy (.int .i64 k)),(33,sy (.int .i64 i))] [.dat EntT l,.dat MemoT m,rowBM q (a,b,c,d,e,()),.dat EntT l2]
noncomputable def hbm2 (N:Nat) (q:Int) (l:List EntD) (m:List MemoD) (a b c d e:Int) (m2:List MemoD) (k i:Int):BO:=rH Tryz.prog enBM (shOf shbm) Tryz.f52 [.bool] N 2 [(1,.pointer (some ⟨12,0,none⟩)),(2,.bool false),(89,dt 13),(90,sy (.int .i64 k)),(91,sy (.int .i64 i))] [.dat EntT l,.dat MemoT m,rowBM q (a,b,c,d,e,()),.dat MemoT m2]
noncomputable def obm (x:DenL [StT]):BO:=fO Tryz.prog enBM (shOf shbm) Tryz.f52 [StT] [.bool] x
theorem obm_g (x:DenL [StT]):obm x=fON Tryz.prog enBM (shOf shbm) Tryz.f52 [StT] [.bool] heads0 x:=rfl
theorem ebm_g (N:Nat) (q:Int) (l:List EntD) (m:List MemoD) (a b c d e:Int):fON Tryz.prog enBM (shOf shbm) Tryz.f52 [StT] [.bool] N ((q,l,m,(a,b,c,d,e,()),()),())=
 (bif decide (q<0) then bO false else bif decide (q>1099511627776) then bO false else bif decide ((l.length:Int)>40) then bO false else bif decide ((m.length:Int)>100) then bO false else hbm0 N q l m a b c d e l (l.length:Int) 0):=by kernel_rfl
theorem ebm_0 (N:Nat) (q:Int) (l:List EntD) (m:List MemoD) (a b c d e:Int) (l2:List EntD) (k i:Int):hbm0 (N+1) q l m a b c d e l2 k i=bmStep q l l2 k i (hbm0 N q l m a b c d e l2 k (i+1)) (lowsE (a,b,c,d,e,()) (hbm2 N q l m a b c d e m (m.length:Int) 0)):=by kernel_rfl
theorem ebm_2 (N:Nat) (q:Int) (l:List EntD) (m:List MemoD) (a b c d e:Int) (m2:List MemoD) (k i:Int):hbm2 (N+1) q l m a b c d e m2 k i=memStep q (a,b,c,d,e,()) m m2 k i (hbm2 N q l m a b c d e m2 k (i+1)):=by kernel_rfl
theorem bm2_l (q:Int) (l:List EntD) (m:List MemoD) (a b c d e:Int) (hm:m.length≤100):∀(r i N:Nat),m.length=i+r→r<N→hbm2 N q l m a b c d e m (m.length:Int) (i:Int)=bO (allFr (bMem q (a,b,c,d,e,()) m) r i):=by
 intro r
 induction r with
 |zero=>
  intro i N hi hN;obtain⟨N,rfl⟩:∃k,N=k+1:=⟨N-1,by omega⟩
  rw[ebm_2];unfold memStep;rw[cdF (by omega)];rfl
 |succ r ih=>
  intro i N hi hN;obtain⟨N,rfl⟩:∃k,N=k+1:=⟨N-1,by omega⟩
  have this:=ih (i+1) N (by omega) (by omega);simp only[Int.natCast_add,Int.natCast_one] at this;rw[ebm_2];unfold memStep;rw[cdT (by omega),gdT (by omega),gdT (by omega),gdT (by omega),xG];exact memE_n hm (by omega) this
theorem bm0_l (q:Int) (l:List EntD) (m:List MemoD) (a b c d e:Int) (hl:l.length≤40) (hm:m.length≤100) (hp:∀x,x∈l→entP x=true):∀(r i N:Nat),l.length=i+r→r+101<N→hbm0 N q l m a b c d e l (l.length:Int) (i:Int)=bO (allFr (bEnt q l) r i&&(bLows (a,b,c,d,e,())&&allFr (bMem q (a,b,c,d,e,()) m) m.length 0)):=by
 intro r
 induction r with
 |zero=>
  intro i N hi hN;obtain⟨N,rfl⟩:∃k,N=k+1:=⟨N-1,by omega⟩
  have this:=bm2_l q l m a b c d e hm m.length 0 N (by omega) (by omega);rw[ebm_0];unfold bmStep;rw[cdF (by omega)];exact lowsE_n this
 |succ r ih=>
  intro i N hi hN;obtain⟨N,rfl⟩:∃k,N=k+1:=⟨N-1,by omega⟩
  have hlt:i<l.length:=by omega
  have this:=ih (i+1) N (by omega) (by omega);simp only[Int.natCast_add,Int.natCast_one] at this;have hpi:entP (entAt l i)=true:=hp _ (by
   show l.getD i _∈l;rw[List.getD_eq_getElem?_getD,List.getElem?_eq_getElem hlt];exact List.getElem_mem hlt)
  rw[ebm_0];unfold bmStep;rw[cdT (by omega),gdT (by omega),gdT (by omega),gdT (by omega),xG];refine(bmE_n hl hlt hpi this).trans ?_;show bO (_&&(_&&_))=bO ((_&&_)&&_);rw[Bool.and_assoc]
theorem bm_n (q:Int) (l:List EntD) (m:List MemoD) (a b c d e:Int) (h:l.all entP=true):obm ((q,l,m,(a,b,c,d,e,()),()),())=bO (bmayN (q,l,m,(a,b,c,d,e,()),())):=by
 have hp:=List.all_eq_true.1 h;show obm _=bO (decide (0≤q)&&(decide (q≤1099511627776)&&(decide (l.length≤40)&&(decide (m.length≤100)&&(allFr (bEnt q l) l.length 0&&(bLows (a,b,c,d,e,())&&allFr (bMem q (a,b,c,d,e,()) m) m.length 0))))));rw[obm_g,ebm_g];by_cases h1:q<0
 ·rw[cdT h1,decide_eq_false (show ¬0≤q by omega)];rfl
 rw[cdF h1,decide_eq_true (show 0≤q by omega)];by_cases h2:q>1099511627776
 ·rw[cdT h2,decide_eq_false (show ¬q≤1099511627776 by omega)];rfl
 rw[cdF h2,decide_eq_true (show q≤1099511627776 by omega)];by_cases h3:(l.length:Int)>40
 ·rw[cdT h3,decide_eq_false (show ¬l.length≤40 by omega)];rfl
 rw[cdF h3,decide_eq_true (show l.length≤40 by omega)];by_cases h4:(m.length:Int)>100
 ·rw[cdT h4,decide_eq_false (show ¬m.length≤100 by omega)];rfl
 rw[cdF h4,decide_eq_true (show m.length≤100 by omega)];exact bm0_l q l m a b c d e (by omega) (by omega) hp l.length 0 heads0 (by omega) (by unfold heads0;omega)
theorem bmay_c:PC 52 bmayS:=(pureO (sh:=shOf shbm) (envS_ok (l:=[(92,entS),(93,homeS)]) ⟨tmay_c,home_c,trivial⟩) gl_ne Tryz.func52 (by kernel_rfl) (by decide)).nice fun⟨⟨q,l,m,⟨a,b,c,d,e,()⟩,()⟩,()⟩ h=>bm_n q l m a b c d e h
end Go.Proofs.YtldllfocpadkeaaGreatDoor
namespace Nice
open Go Go.Eng
abbrev ShT:Ty:=.pair (.slice .str) (.pair (.slice EntT) (.pair .bool (.pair .str .unit)))
abbrev ShD:Type:=List (List UInt8)×List EntD×Bool×List UInt8×Unit
def entsP (l:List EntD):Bool:=decide (l.length≤1099511627776)&&l.all entP
def badN (l:List EntD):Bool:=l.any fun e=> !entB e
def idxEN (l:List EntD):Int:=bif badN l then((l.takeWhile entB).length:Int) else -1
noncomputable def notES:PSpec:=⟨[EntT],[.bool],fun x=>entP x.1,fun x=>(!entB x.1,())⟩
noncomputable def idxES:PSpec:=⟨[.slice EntT,.fn 149],[.int .i64],fun x=>entsP x.1,fun x=>(idxEN x.1,())⟩
noncomputable def badES:PSpec:=⟨[.slice EntT,.fn 149],[.bool],fun x=>entsP x.1,fun x=>(badN x.1,())⟩
def keysN (n:List (List UInt8)) (l:List EntD):List (List UInt8):=n++l.map (·.1)
def keysP (s:ShD):Bool:=decide (s.1.length≤1099511627776)&&decide (s.2.1.length≤1099511627776)
noncomputable def keysS:PSpec:=⟨[ShT],[.slice .str],fun x=>keysP x.1,fun x=>(keysN x.1.1 x.1.2.1,())⟩
def riseK:List UInt8→List (List UInt8)→Bool
 |_,[]=>true
 |last,k::r=>isKey k&&(Op.bytesLess last k&&riseK k r)
theorem riseK_cons (last k:List UInt8) (r:List (List UInt8)):riseK last (k::r)=(isKey k&&(Op.bytesLess last k&&riseK k r)):=rfl
def lastK (t:List UInt8):List (List UInt8)→List UInt8
 |[]=>t
 |k::r=>lastK k r
def riseE:List UInt8→List EntD→Bool
 |_,[]=>true
 |last,e::r=>entB e&&(Op.bytesLess last e.1&&riseE e.1 r)
theorem riseE_cons (last:List UInt8) (e:EntD) (r:List EntD):riseE last (e::r)=(entB e&&(Op.bytesLess last e.1&&riseE e.1 r)):=rfl
def smayN (s:ShD):Bool:= !(decide (0<s.1.length)&&decide (0<s.2.1.length))&&(riseK [] (keysN s.1 s.2.1)&&(s.2.1.all entB&&(decide ((keysN s.1 s.2.1).length≤20)&&(bif s.2.2.1 then decide (0<(keysN s.1 s.2.1).length)&&s.2.2.2.1==lastK [] (keysN s.1 s.2.1) else s.2.2.2.1==[]))))
def smayP (s:ShD):Bool:=decide (s.1.length≤1099511627776)&&(s.1.all bndS&&entsP s.2.1)
noncomputable def smayS:PSpec:=⟨[ShT],[.bool],fun x=>smayP x.1,fun x=>(smayN x.1,())⟩
theorem less_tot:∀(a b:List UInt8),Op.bytesLess a b= !(Op.bytesLess b a||b==a)
 |[],[]=>by simp[Op.bytesLess]
 |[],_::_=>by simp[Op.bytesLess]
 |_::_,[]=>by simp[Op.bytesLess]
 |x::a,y::b=>by
  have ih:=less_tot a b;simp only[Op.bytesLess];rcases Nat.lt_trichotomy x.toNat y.toNat with h|h|h
  ·have h1:x<y:=UInt8.lt_iff_toNat_lt.2 h;have h2:¬y<x:=fun h=>by have:=UInt8.lt_iff_toNat_lt.1 h;omega
   have h3:(y==x)=false:=by
    rw[beq_eq_false_iff_ne];rintro rfl;exact absurd h (Nat.lt_irrefl _)
   simp[h1,h2,h3,List.cons_beq_cons]
  ·have h1:x=y:=UInt8.toNat_inj.1 h;subst h1;simp[ih,List.cons_beq_cons]
  ·have h1:y<x:=UInt8.lt_iff_toNat_lt.2 h;have h2:¬x<y:=fun h=>by have:=UInt8.lt_iff_toNat_lt.1 h;omega
   have h3:x≠y:=by rintro rfl;exact absurd h (Nat.lt_irrefl _)
   simp[h1,h2,h3]
theorem less_nil {k:List UInt8} (h:isKey k=true):Op.bytesLess [] k=true:=by
 cases k with
 |nil=>exact absurd h (by decide)
 |cons a b=>simp[Op.bytesLess]
theorem isKey_bnd {k:List UInt8} (h:isKey k=true):k.length≤40:=by
 unfold isKey at h;rw[Bool.and_eq_true,Bool.and_eq_true,decide_eq_true_eq,decide_eq_true_eq] at h;exact h.2.2
theorem entB_key {e:EntD} (h:entB e=true):isKey e.1=true:=by
 unfold entB at h;rw[Bool.and_eq_true,Bool.and_eq_true] at h;exact h.2.1
theorem riseK_app:∀(n m:List (List UInt8)) (t:List UInt8),riseK t (n++m)=(riseK t n&&riseK (lastK t n) m)
 |[],_,_=>by rw[List.nil_append];exact(Bool.true_and _).symm
 |k::n,m,t=>by rw[List.cons_append,riseK_cons,riseK_cons,riseK_app n m k,Bool.and_assoc,Bool.and_assoc];rfl
theorem lastK_app:∀(n m:List (List UInt8)) (t:List UInt8),lastK t (n++m)=lastK (lastK t n) m
 |[],_,_=>rfl
 |k::n,m,_=>lastK_app n m k
theorem riseE_eq:∀(l:List EntD) (t:List UInt8),riseE t l=(riseK t (l.map (·.1))&&l.all entB)
 |[],_=>rfl
 |e::l,t=>by
  rw[riseE_cons,List.map_cons,riseK_cons,riseE_eq l e.1,List.all_cons];cases h:entB e
  ·simp
  ·rw[entB_key h];cases Op.bytesLess t e.1
   ·rfl
   ·cases riseK e.1 (l.map (·.1))<;>rfl
theorem lastK_getD:∀(k:List (List UInt8)) (t:List UInt8),0<k.length→lastK t k=k.getD (k.length-1) []
 |[],_,h=>absurd h (by decide)
 |[a],_,_=>rfl
 |a::b::k,t,_=>by
  have:=lastK_getD (b::k) a (by simp);show lastK a (b::k)=_;rw[this];rfl
noncomputable def stepIE (l:List EntD) (b i:Int) (nx:Option (DenL [.int .i64])):Option (DenL [.int .i64]):=
 bif decide (i<b) then(bif !entB ((l.getD i.toNat (EntT).dflt).1,(l.getD i.toNat (EntT).dflt).2.1,()) then gd [entP ((l.getD i.toNat (EntT).dflt).1,(l.getD i.toNat (EntT).dflt).2.1,()),decide (i.toNat<l.length),decide (0≤i),decide (i<(l.length:Int))] (some (i,()))
  else gd [decide (inK .i64 (i+1)),entP ((l.getD i.toNat (EntT).dflt).1,(l.getD i.toNat (EntT).dflt).2.1,()),decide (i.toNat<l.length),decide (0≤i),decide (i<(l.length:Int))] nx)
 else some (-1,())
end Nice
namespace Go.Proofs.YtldllfocpadkeaaGreatDoor
open Go Go.Eng Nice Go.RowKit
set_option maxRecDepth 1000000
noncomputable def onotE (x:DenL [EntT]):BO:=fO Tryz.prog (envS [(92,entS)]) (shOf []) Tryz.f149 [EntT] [.bool] x
theorem enotE (k:List UInt8) (l:List VerD):onotE ((k,l,()),())=(bif entB (k,l,()) then gd [entP (k,l,())] (bO false) else gd [entP (k,l,())] (bO true)):=by kernel_rfl
theorem notE_c:PC 149 notES:=(pureO (envS_ok (l:=[(92,entS)]) ⟨tmay_c,trivial⟩) gl_ne Tryz.func149 (by kernel_rfl) (by decide)).nice fun⟨⟨k,l,()⟩,()⟩ h=>by
 have h:entP (k,l,())=true:=h;show onotE _=some (!entB (k,l,()),());rw[enotE,gdB h,gdB h,xG,xG];cases entB (k,l,())<;>rfl
abbrev shidxE:List (Nat×List (Nat×Sh)):=[(2,[(0,(.one (.dat EntT))),(1,(.one .any)),(4,(.one .sym)),(7,(.one .sym)),(8,(.one .sym))])]
noncomputable def hidxE (n:Nat) (l:List EntD) (a b i:Int):Option (DenL [.int .i64]):=rH Tryz.prog (envS [(149,notES)]) (shOf shidxE) Tryz.f100 [.int .i64] n 0 [(0,dt 10),(1,Value.func (Fn.func 149) #[] #[]),(4,sy (.int .i64 a)),(7,sy (.int .i64 b)),(8,sy (.int .i64 i))] [.dat EntT l]
noncomputable def oidxE (x:DenL [.slice EntT,.fn 149]):Option (DenL [.int .i64]):=fO Tryz.prog (envS [(149,notES)]) (shOf shidxE) Tryz.f100 [.slice EntT,.fn 149] [.int .i64] x
theorem oidxE_g (x:DenL [.slice EntT,.fn 149]):oidxE x=fON Tryz.prog (envS [(149,notES)]) (shOf shidxE) Tryz.f100 [.slice EntT,.fn 149] [.int .i64] heads0 x:=rfl
theorem eidxE_g (N:Nat) (l:List EntD):fON Tryz.prog (envS [(149,notES)]) (shOf shidxE) Tryz.f100 [.slice EntT,.fn 149] [.int .i64] N (l,(),())=hidxE N l 0 (l.length:Int) 0:=by kernel_rfl
theorem eidxE_0 (n:Nat) (l:List EntD) (a b i:Int):hidxE (n+1) l a b i=stepIE l b i (hidxE n l a b (i+1)):=by kernel_rfl
theorem idxE_l (l:List EntD) (hl:l.length≤1099511627776) (hp:∀h,h∈l→entP h=true):∀(r i n:Nat),l.length=i+r→r<n→hidxE n l 0 (l.length:Int) (i:Int)=some ((bif (l.drop i).any (fun h=> !entB h) then(i:Int)+((l.drop i).takeWhile entB).length else -1),()):=by
 intro r
 induction r with
 |zero=>
  intro i n hi hn;obtain⟨n,rfl⟩:∃k,n=k+1:=⟨n-1,by omega⟩
  rw[eidxE_0];unfold stepIE;rw[cdF (by omega),List.drop_eq_nil_of_le (by omega)];rfl
 |succ r ih=>
  intro i n hi hn;obtain⟨n,rfl⟩:∃k,n=k+1:=⟨n-1,by omega⟩
  have hlt:i<l.length:=by omega
  have hd:l.drop i=l.getD i (EntT).dflt::l.drop (i+1):=by
   rw[List.drop_eq_getElem_cons hlt,List.getD_eq_getElem?_getD,List.getElem?_eq_getElem hlt];rfl
  have hh:entP (l.getD i (EntT).dflt)=true:=hp _ (by
   rw[List.getD_eq_getElem?_getD,List.getElem?_eq_getElem hlt];exact List.getElem_mem hlt)
  rw[eidxE_0];unfold stepIE;rw[cdT (by omega),show(i:Int).toNat=i from rfl,hd,List.any_cons,List.takeWhile_cons,show((l.getD i (EntT).dflt).1,(l.getD i (EntT).dflt).2.1,())=l.getD i (EntT).dflt from rfl];cases hb:entB (l.getD i (EntT).dflt)
  ·rw[Bool.not_false,xT,gdB hh,gdT (by omega),gdT (by omega),gdT (by omega),xG,Bool.true_or,xT];simp
  ·have:=ih (i+1) n (by omega) (by omega);simp only[Int.natCast_add,Int.natCast_one] at this;rw[Bool.not_true,xF,gdT (inK_i64.2 ⟨by omega,by omega⟩),gdB hh,gdT (by omega),gdT (by omega),gdT (by omega),xG,this,Bool.false_or];cases(l.drop (i+1)).any fun h=> !entB h
   ·rfl
   ·simp only[xT,if_true,List.length_cons,Int.natCast_add,Int.natCast_one];congr 2;omega
theorem entsP_iff {l:List EntD}:entsP l=true↔l.length≤1099511627776∧∀h,h∈l→entP h=true:=by
 unfold entsP;rw[Bool.and_eq_true,decide_eq_true_eq,List.all_eq_true]
theorem idxE_c:PC 100 idxES:=(pureO (sh:=shOf shidxE) (envS_ok (l:=[(149,notES)]) ⟨notE_c,trivial⟩) gl_ne Tryz.func100 (by kernel_rfl) (by decide)).nice fun⟨l,(),()⟩ h=>by
 obtain⟨h1,h2⟩:=entsP_iff.1 h;have h1:l.length≤1099511627776:=h1;show oidxE _=some (idxEN l,());rw[oidxE_g,eidxE_g];refine Eq.trans (idxE_l l h1 h2 l.length 0 heads0 (by omega) (by unfold heads0;omega)) ?_;unfold idxEN badN;rw[List.drop_zero];cases l.any fun h=> !entB h
 ·rfl
 ·simp
noncomputable def obadE (x:DenL [.slice EntT,.fn 149]):BO:=fO Tryz.prog (envS [(100,idxES)]) (shOf []) Tryz.f148 [.slice EntT,.fn 149] [.bool] x
theorem ebadE (l:List EntD):obadE (l,(),())=(bif decide (idxEN l≥0) then gd [entsP l] (bO true) else gd [entsP l] (bO false)):=by kernel_rfl
theorem idxEN_eq (l:List EntD):decide (idxEN l≥0)=badN l:=by
 unfold idxEN;cases badN l
 ·rfl
 ·exact decide_eq_true (by show(0:Int)≤_;rw[xT];omega)
theorem badE_c:PC 148 badES:=(pureO (envS_ok (l:=[(100,idxES)]) ⟨idxE_c,trivial⟩) gl_ne Tryz.func148 (by kernel_rfl) (by decide)).nice fun⟨l,(),()⟩ h=>by
 have h:entsP l=true:=h;show obadE _=some (badN l,());rw[ebadE,idxEN_eq,gdB h,gdB h,xG,xG];cases badN l<;>rfl
abbrev shkeys:List (Nat×List (Nat×Sh)):=[(3,[(2,(.one .any)),(3,(.one (.vec .str 9))),(10,(.one (.dat EntT))),(11,(.one .sym)),(12,(.one .sym))])]
noncomputable def hkeys (N:Nat) (o:List (List UInt8)) (l:List EntD) (m i:Int):Option (DenL [.slice .str]):=rH Tryz.prog (envO [] [(205,cloneS)]) (shOf shkeys) Tryz.f147 [.slice .str] N 0 [(2,Value.slice none 0 0),(3,dt 10),(10,dt 11),(11,sy (.int .i64 m)),(12,sy (.int .i64 i))] [.vec .str o 9,.dat EntT l]
noncomputable def okeys (x:DenL [ShT]):Option (DenL [.slice .str]):=fO Tryz.prog (envO [] [(205,cloneS)]) (shOf shkeys) Tryz.f147 [ShT] [.slice .str] x
theorem okeys_g (x:DenL [ShT]):okeys x=fON Tryz.prog (envO [] [(205,cloneS)]) (shOf shkeys) Tryz.f147 [ShT] [.slice .str] heads0 x:=rfl
theorem ekeys_g (N:Nat) (n:List (List UInt8)) (l:List EntD) (m:Bool) (x:List UInt8):fON Tryz.prog (envO [] [(205,cloneS)]) (shOf shkeys) Tryz.f147 [ShT] [.slice .str] N ((n,l,m,x,()),())=
 gd [decide (n.length≤8796093022208)] (hkeys N n l (l.length:Int) 0):=by kernel_rfl
theorem ekeys_0 (N:Nat) (o:List (List UInt8)) (l:List EntD) (m i:Int):hkeys (N+1) o l m i=
 (bif decide (i<m) then gd [decide (inK .i64 (i+1)),decide ((2*(o.length+[(l.getD i.toNat (EntT).dflt).1].length)+400)*16≤281474976710656),decide (i.toNat<l.length),decide (0≤i),decide (i<(l.length:Int))] (hkeys N (o++[(l.getD i.toNat (EntT).dflt).1]) l m (i+1)) else some (o,())):=by kernel_rfl
theorem keys_l (l:List EntD) (hl:l.length≤1099511627776):∀(r i N:Nat) (o:List (List UInt8)),l.length=i+r→r<N→o.length≤1099511627776+i→hkeys N o l (l.length:Int) (i:Int)=some (o++(l.drop i).map (·.1),()):=by
 intro r
 induction r with
 |zero=>
  intro i N o hi hN _;obtain⟨N,rfl⟩:∃m,N=m+1:=⟨N-1,by omega⟩
  rw[ekeys_0,cdF (by omega),List.drop_eq_nil_of_le (by omega)];simp
 |succ r ih=>
  intro i N o hi hN ho;obtain⟨N,rfl⟩:∃m,N=m+1:=⟨N-1,by omega⟩
  have hlt:i<l.length:=by omega
  have hd:l.drop i=l.getD i (EntT).dflt::l.drop (i+1):=by
   rw[List.drop_eq_getElem_cons hlt,List.getD_eq_getElem?_getD,List.getElem?_eq_getElem hlt];rfl
  have hlen:([(l.getD i (EntT).dflt).1]:List (List UInt8)).length=1:=rfl;have this:=ih (i+1) N (o++[(l.getD i (EntT).dflt).1]) (by omega) (by omega) (by rw[List.length_append,hlen];omega);simp only[Int.natCast_add,Int.natCast_one] at this;rw[ekeys_0,cdT (by omega),show(i:Int).toNat=i from rfl,hlen,gdT (inK_i64.2 ⟨by omega,by omega⟩),gdT (by omega),gdT hlt,gdT (by omega),gdT (by omega),xG,this,hd,List.map_cons,List.append_assoc];rfl
theorem keys_c:PC 147 keysS:=(pureO (sh:=shOf shkeys) (envO_ok (l:=[]) (o:=[(205,cloneS)]) trivial ⟨clone_c,trivial⟩) gl_ne Tryz.func147 (by kernel_rfl) (by decide)).nice fun⟨⟨n,l,m,x,()⟩,()⟩ h=>by
 have h:(decide (n.length≤1099511627776)&&decide (l.length≤1099511627776))=true:=h;rw[Bool.and_eq_true,decide_eq_true_eq,decide_eq_true_eq] at h;show okeys _=some (keysN n l,());rw[okeys_g,ekeys_g,gdT (by omega),xG];exact keys_l l h.2 l.length 0 heads0 n (by omega) (by unfold heads0;omega) (by omega)
end Go.Proofs.YtldllfocpadkeaaGreatDoor
namespace Nice
open Go Go.Eng
noncomputable def stepSM (k:List (List UInt8)) (m i:Int) (nx ex:BO):BO:=
 bif decide (i<m) then gd [decide (i.toNat<k.length),decide (0≤i),decide (i<(k.length:Int))] (bif isKey (k.getD i.toNat Ty.str.dflt) then
     (bif decide (i>0) then(bif !Op.bytesLess (k.getD (i-1).toNat Ty.str.dflt) (k.getD i.toNat Ty.str.dflt) then gd [decide ((i-1).toNat<k.length),decide (0≤i-1),decide (i-1<(k.length:Int)),decide (inK .i64 (i-1)),bndS (k.getD i.toNat Ty.str.dflt)] (bO false)
      else gd [decide (inK .i64 (i+1)),decide ((i-1).toNat<k.length),decide (0≤i-1),decide (i-1<(k.length:Int)),decide (inK .i64 (i-1)),bndS (k.getD i.toNat Ty.str.dflt)] nx)
     else gd [decide (inK .i64 (i+1)),bndS (k.getD i.toNat Ty.str.dflt)] nx)
  else gd [bndS (k.getD i.toNat Ty.str.dflt)] (bO false)) else ex
noncomputable abbrev gL (k:List (List UInt8)):List Bool:=[decide (((k.length:Int)-1).toNat<k.length),decide (0≤(k.length:Int)-1),decide ((k.length:Int)-1<(k.length:Int)),decide (inK .i64 ((k.length:Int)-1))]
noncomputable def exT (l:List EntD) (x:List UInt8) (k:List (List UInt8)):BO:=
 bif badN l then gd [entsP l] (bif decide ((k.length:Int)>0) then gd (gL k) (bO false) else bO false)
 else gd [entsP l] (bif decide ((k.length:Int)>0) then gd (gL k) (bif decide ((k.length:Int)≤20) then(bif x==k.getD ((k.length:Int)-1).toNat Ty.str.dflt then(bif decide ((k.length:Int)>0) then bO true else bO false) else bO false) else bO false)
  else(bif decide ((k.length:Int)≤20) then(bif x==[] then(bif decide ((k.length:Int)>0) then bO true else bO false) else bO false) else bO false))
noncomputable def exF (l:List EntD) (x:List UInt8) (k:List (List UInt8)):BO:=
 bif badN l then gd [entsP l] (bO false) else gd [entsP l] (bif decide ((k.length:Int)≤20) then(bif x==[] then bO true else bO false) else bO false)
noncomputable def exB (b:Bool) (l:List EntD) (x:List UInt8) (k:List (List UInt8)):BO:=match b with
 |true=>exT l x k
 |false=>exF l x k
theorem exB_n (b:Bool) {l:List EntD} (x:List UInt8) {k:List (List UInt8)} (h:entsP l=true) (hk:k.length≤4398046511104):exB b l x k=some (l.all entB&&(decide (k.length≤20)&&(bif b then decide (0<k.length)&&x==lastK [] k else x==[])),()):=by
 have hb:badN l= !l.all entB:=by
  unfold badN;rw[List.not_all_eq_any_not]
 cases b
 ·show exF l x k=_;unfold exF;rw[gdB h,gdB h,hb];cases l.all entB
  ·rfl
  ·by_cases h2:k.length≤20
   ·rw[cdT (show(k.length:Int)≤20 by omega),decide_eq_true h2];cases x==[]<;>rfl
   ·rw[cdF (show ¬(k.length:Int)≤20 by omega),decide_eq_false h2];rfl
 ·show exT l x k=_;unfold exT;rw[gdB h,gdB h,hb];by_cases h1:0<k.length
  ·have hg:∀y:BO,gd (gL k) y=y:=fun y=>by
    unfold gL;rw[gdT (by omega),gdT (by omega),gdT (by omega),gdT (inK_i64.2 ⟨by omega,by omega⟩),xG]
   have hl:k.getD ((k.length:Int)-1).toNat Ty.str.dflt=lastK [] k:=by
    rw[lastK_getD k [] h1,show((k.length:Int)-1).toNat=k.length-1 by omega];rfl
   rw[cdT (show(k.length:Int)>0 by omega),hl,decide_eq_true h1,Bool.true_and,hg];cases l.all entB
   ·rfl
   ·by_cases h2:k.length≤20
    ·rw[cdT (show(k.length:Int)≤20 by omega),cdT (show(k.length:Int)>0 by omega),decide_eq_true h2,hg];cases x==lastK [] k<;>first|rfl|(rw[cdT (show(k.length:Int)>0 by omega)];rfl)
    ·rw[cdF (show ¬(k.length:Int)≤20 by omega),decide_eq_false h2,hg];first|rfl|(rw[cdT (show(k.length:Int)>0 by omega)];rfl)
  ·have:k=[]:=List.eq_nil_of_length_eq_zero (by omega);subst this;cases l.all entB
   ·rfl
   ·cases x==[]<;>rfl
noncomputable def begSM (s:ShD) (y:BO):BO:=bif decide ((s.1.length:Int)>0) then(bif decide ((s.2.1.length:Int)>0) then bO false else gd [keysP s] y) else gd [keysP s] y
theorem begSM_n {s:ShD} {b:Bool} {y:BO} (h:keysP s=true) (hy:y=some (b,())):begSM s y=some (!(decide (0<s.1.length)&&decide (0<s.2.1.length))&&b,()):=by
 subst hy;unfold begSM;rw[gdB h,xG];by_cases h1:0<s.1.length
 ·rw[cdT (by omega),decide_eq_true h1];by_cases h2:0<s.2.1.length
  ·rw[cdT (by omega),decide_eq_true h2];rfl
  ·rw[cdF (by omega),decide_eq_false h2];rfl
 ·rw[cdF (by omega),decide_eq_false h1];rfl
theorem smayP_iff {s:ShD}:smayP s=true↔s.1.length≤1099511627776∧(∀k,k∈s.1→bndS k=true)∧entsP s.2.1=true:=by
 unfold smayP;rw[Bool.and_eq_true,Bool.and_eq_true,decide_eq_true_eq,List.all_eq_true]
end Nice
namespace Go.Proofs.YtldllfocpadkeaaGreatDoor
open Go Go.Eng Nice Go.RowKit
set_option maxRecDepth 1000000
abbrev shsmay:List (Nat×List (Nat×Sh)):=[(5,[(1,(.obj [(.dat .str),(.dat EntT),.sym,.sym])),(2,(.one .sym)),(3,(.one (.dat .str))),(20,(.one (.dat .str))),(21,(.one .sym)),(22,(.one .sym))])]
noncomputable def hsmay (N:Nat) (n:List (List UInt8)) (l:List EntD) (b:Bool) (x:List UInt8) (k:List (List UInt8)) (m i:Int):BO:=rH Tryz.prog (envS [(147,keysS),(135,isKeyS),(148,badES)]) (shOf shsmay) Tryz.f103 [.bool] N 0 [(1,.pointer (some ⟨12,0,none⟩)),(2,.bool false),(3,dt 13),(20,dt 14),(21,sy (.int .i64 m)),(22,sy (.int .i64 i))] [.dat .str n,.dat EntT l,.row [dt 10,dt 11,.bool b,sy (.string (bs x))] 35 false,.dat .str k,.dat .str k]
noncomputable def osmay (x:DenL [ShT]):BO:=fO Tryz.prog (envS [(147,keysS),(135,isKeyS),(148,badES)]) (shOf shsmay) Tryz.f103 [ShT] [.bool] x
theorem osmay_g (x:DenL [ShT]):osmay x=fON Tryz.prog (envS [(147,keysS),(135,isKeyS),(148,badES)]) (shOf shsmay) Tryz.f103 [ShT] [.bool] heads0 x:=rfl
theorem esmayT_g (N:Nat) (n:List (List UInt8)) (l:List EntD) (x:List UInt8):fON Tryz.prog (envS [(147,keysS),(135,isKeyS),(148,badES)]) (shOf shsmay) Tryz.f103 [ShT] [.bool] N ((n,l,true,x,()),())=begSM (n,l,true,x,()) (hsmay N n l true x (keysN n l) ((keysN n l).length:Int) 0):=by kernel_rfl
theorem esmayF_g (N:Nat) (n:List (List UInt8)) (l:List EntD) (x:List UInt8):fON Tryz.prog (envS [(147,keysS),(135,isKeyS),(148,badES)]) (shOf shsmay) Tryz.f103 [ShT] [.bool] N ((n,l,false,x,()),())=begSM (n,l,false,x,()) (hsmay N n l false x (keysN n l) ((keysN n l).length:Int) 0):=by kernel_rfl
theorem esmayT_0 (N:Nat) (n:List (List UInt8)) (l:List EntD) (x:List UInt8) (k:List (List UInt8)) (m i:Int):hsmay (N+1) n l true x k m i=stepSM k m i (hsmay N n l true x k m (i+1)) (exB true l x k):=by kernel_rfl
theorem esmayF_0 (N:Nat) (n:List (List UInt8)) (l:List EntD) (x:List UInt8) (k:List (List UInt8)) (m i:Int):hsmay (N+1) n l false x k m i=stepSM k m i (hsmay N n l false x k m (i+1)) (exB false l x k):=by kernel_rfl
theorem esmay_0 (N:Nat) (n:List (List UInt8)) (l:List EntD) (b:Bool) (x:List UInt8) (k:List (List UInt8)) (m i:Int):hsmay (N+1) n l b x k m i=stepSM k m i (hsmay N n l b x k m (i+1)) (exB b l x k):=by
 cases b
 ·exact esmayF_0 N n l x k m i
 ·exact esmayT_0 N n l x k m i
theorem smay_l (n:List (List UInt8)) (l:List EntD) (b:Bool) (x:List UInt8) (k:List (List UInt8)) (hk:k.length≤4398046511104) (hb:∀s,s∈k→bndS s=true) (c:Bool) (hx:exB b l x k=some (c,())):∀(r i N:Nat),k.length=i+r→r<N→hsmay N n l b x k (k.length:Int) (i:Int)=some (riseK (bif i==0 then [] else k.getD (i-1) []) (k.drop i)&&c,()):=by
 intro r
 induction r with
 |zero=>
  intro i N hi hN;obtain⟨N,rfl⟩:∃m,N=m+1:=⟨N-1,by omega⟩
  rw[esmay_0];unfold stepSM;rw[cdF (by omega),List.drop_eq_nil_of_le (by omega),hx];rfl
 |succ r ih=>
  intro i N hi hN;obtain⟨N,rfl⟩:∃m,N=m+1:=⟨N-1,by omega⟩
  have hlt:i<k.length:=by omega
  have hd:k.drop i=k.getD i []::k.drop (i+1):=by
   rw[List.drop_eq_getElem_cons hlt,List.getD_eq_getElem?_getD,List.getElem?_eq_getElem hlt];rfl
  have hh:bndS (k.getD i [])=true:=hb _ (by
   rw[List.getD_eq_getElem?_getD,List.getElem?_eq_getElem hlt];exact List.getElem_mem hlt)
  have this:=ih (i+1) N (by omega) (by omega);rw[show((i+1:Nat)==0)=false from rfl,xF,Nat.add_sub_cancel] at this;simp only[Int.natCast_add,Int.natCast_one] at this;have hi1:inK .i64 ((i:Int)+1):=inK_i64.2 ⟨by omega,by omega⟩;rw[esmay_0];unfold stepSM;rw[cdT (by omega),show(i:Int).toNat=i from rfl,show k.getD i Ty.str.dflt=k.getD i [] from rfl,gdT hlt,gdT (by omega),gdT (by omega),xG,hd,riseK_cons,this]
  cases hkey:isKey (k.getD i [])
  ·rw[xF,gdB hh,xG];rfl
  ·rw[xT,Bool.true_and];rcases Nat.eq_zero_or_pos i with h0|h0
   ·subst h0;rw[cdF (by omega),gdT hi1,gdB hh,xG,show((0:Nat)==0)=true from rfl,xT,less_nil hkey,Bool.true_and]
   ·rw[cdT (by omega),show((i:Int)-1).toNat=i-1 by omega,show(i==0)=false from by rw[beq_eq_false_iff_ne];omega,xF,show k.getD (i-1) Ty.str.dflt=k.getD (i-1) [] from rfl];cases Op.bytesLess (k.getD (i-1) []) (k.getD i [])
    ·rw[Bool.not_false,xT,gdT (by omega),gdT (by omega),gdT (by omega),gdT (inK_i64.2 ⟨by omega,by omega⟩),gdB hh,xG];rfl
    ·rw[Bool.not_true,xF,gdT hi1,gdT (by omega),gdT (by omega),gdT (by omega),gdT (inK_i64.2 ⟨by omega,by omega⟩),gdB hh,xG,Bool.true_and]
theorem smay_n {n:List (List UInt8)} {l:List EntD} {b:Bool} {x:List UInt8} (h:smayP (n,l,b,x,())=true):begSM (n,l,b,x,()) (hsmay heads0 n l b x (keysN n l) ((keysN n l).length:Int) 0)=some (smayN (n,l,b,x,()),()):=by
 obtain⟨h1,h2,h3⟩:=smayP_iff.1 h;have h4:=entsP_iff.1 h3;have h1:n.length≤1099511627776:=h1;have h5:l.length≤1099511627776:=h4.1;have hkl:(keysN n l).length=n.length+l.length:=by unfold keysN;rw[List.length_append,List.length_map]
 have hb:∀s,s∈keysN n l→bndS s=true:=fun s hs=>by
  rcases List.mem_append.1 hs with hs|hs
  ·exact h2 s hs
  ·obtain⟨e,he,rfl⟩:=List.mem_map.1 hs;have:=h4.2 e he;unfold entP at this;rw[Bool.and_eq_true] at this;exact this.1
 have:=smay_l n l b x (keysN n l) (by omega) hb _ (exB_n b x h3 (by omega)) (keysN n l).length 0 heads0 (by omega) (by unfold heads0;omega);refine begSM_n (s:=(n,l,b,x,())) (by unfold keysP;rw[Bool.and_eq_true];exact⟨decide_eq_true h1,decide_eq_true h5⟩) ?_;exact this
theorem smay_c:PC 103 smayS:=(pureO (sh:=shOf shsmay) (envS_ok (l:=[(147,keysS),(135,isKeyS),(148,badES)]) ⟨keys_c,dKey_c,badE_c,trivial⟩) gl_ne Tryz.func103 (by kernel_rfl) (by decide)).nice fun⟨⟨n,l,b,x,()⟩,()⟩ h=>by
 show osmay _=some (smayN (n,l,b,x,()),());rw[osmay_g];cases b
 ·rw[esmayF_g];exact smay_n h
 ·rw[esmayT_g];exact smay_n h
end Go.Proofs.YtldllfocpadkeaaGreatDoor
namespace Nice
open Go Go.Eng
def mcN (b:Bool) (s:ShD):Bool:=match b with
 |true=>((s.1.length:Int)+(s.2.1.length:Int)==0)
 |false=> !s.2.2.2.1==[]
noncomputable def begRM (b:Bool) (s:ShD) (y:BO):BO:=gd [decide (inK .i64 ((s.1.length:Int)+(s.2.1.length:Int)))] (bif decide ((s.1.length:Int)>0) then(bif decide ((s.2.1.length:Int)>0) then bO false else(bif decide ((s.1.length:Int)+(s.2.1.length:Int)>20) then bO false else bif mcN b s then bO false else y))
 else(bif decide ((s.1.length:Int)+(s.2.1.length:Int)>20) then bO false else bif mcN b s then bO false else y))
noncomputable abbrev gI {α:Type} (l:List α) (i:Int):List Bool:=[decide (i.toNat<l.length),decide (0≤i),decide (i<(l.length:Int))]
noncomputable def stepR0 (n:List (List UInt8)) (t:List UInt8) (i:Int) (nx ex:BO):BO:=
 bif decide (i<(n.length:Int)) then(bif isKey (n.getD i.toNat Ty.str.dflt) then(bif Op.bytesLess (n.getD i.toNat Ty.str.dflt) t||n.getD i.toNat Ty.str.dflt==t then gd (gI n i++[bndS (n.getD i.toNat Ty.str.dflt)]++gI n i) (bO false)
     else gd (decide (inK .i64 (i+1))::(gI n i++gI n i++[bndS (n.getD i.toNat Ty.str.dflt)]++gI n i)) nx)
  else gd (bndS (n.getD i.toNat Ty.str.dflt)::gI n i) (bO false)) else ex
noncomputable def stepR1 (l:List EntD) (t:List UInt8) (i:Int) (nx ex:BO):BO:=
 bif decide (i<(l.length:Int)) then(bif entB ((l.getD i.toNat (EntT).dflt).1,(l.getD i.toNat (EntT).dflt).2.1,()) then(bif Op.bytesLess (l.getD i.toNat (EntT).dflt).1 t||(l.getD i.toNat (EntT).dflt).1==t then gd (gI l i++[entP ((l.getD i.toNat (EntT).dflt).1,(l.getD i.toNat (EntT).dflt).2.1,())]++gI l i) (bO false)
     else gd (decide (inK .i64 (i+1))::(gI l i++gI l i++[entP ((l.getD i.toNat (EntT).dflt).1,(l.getD i.toNat (EntT).dflt).2.1,())]++gI l i)) nx)
  else gd (entP ((l.getD i.toNat (EntT).dflt).1,(l.getD i.toNat (EntT).dflt).2.1,())::gI l i) (bO false)) else ex
def exR (b:Bool) (x t:List UInt8):BO:=match b with
 |true=>bif x==t then bO true else bO false
 |false=>bO true
def exRb (b:Bool) (x t:List UInt8):Bool:=bif b then x==t else true
theorem exR_n (b:Bool) (x t:List UInt8):exR b x t=some (exRb b x t,()):=by
 cases b
 ·rfl
 ·show(bif x==t then bO true else bO false)=_;unfold exRb;cases x==t<;>rfl
theorem less_not {a b:List UInt8}:(Op.bytesLess a b||a==b)= !Op.bytesLess b a:=by
 rw[less_tot b a,Bool.not_not]
theorem algM:∀(a8 a1 a2 a3 a4 a5 a6 a7 b:Bool),(a8&&(a4&&((bif b then a5 else a7)&&(a1&&(a2&&a3&&bif b then a6 else true)))))=(a8&&(a1&&a2&&(a3&&(a4&&bif b then a5&&a6 else a7)))):=by
 intro a8 a1 a2 a3 a4 a5 a6 a7 b;cases b<;>cases a4<;>cases a5<;>cases a7<;>cases a1<;>cases a2<;>cases a3<;>cases a6<;>rfl
theorem begRM_n {s:ShD} {c:Bool} {y:BO} (h1:s.1.length≤1099511627776) (h2:s.2.1.length≤1099511627776) (hy:y=some (c,())):begRM s.2.2.1 s y=some (!(decide (0<s.1.length)&&decide (0<s.2.1.length))&&(decide ((keysN s.1 s.2.1).length≤20)&&((bif s.2.2.1 then decide (0<(keysN s.1 s.2.1).length) else s.2.2.2.1==[])&&c)),()):=by
 have hk:(keysN s.1 s.2.1).length=s.1.length+s.2.1.length:=by unfold keysN;rw[List.length_append,List.length_map]
 have hm:mcN s.2.2.1 s= !(bif s.2.2.1 then decide (0<(keysN s.1 s.2.1).length) else s.2.2.2.1==[]):=by
  cases s.2.2.1
  ·rfl
  ·show((s.1.length:Int)+(s.2.1.length:Int)==0)= !decide (0<(keysN s.1 s.2.1).length);rw[hk];by_cases h:s.1.length+s.2.1.length=0
   ·rw[decide_eq_false (show ¬0<s.1.length+s.2.1.length by omega),beq_iff_eq.2 (show(s.1.length:Int)+(s.2.1.length:Int)=0 by omega)];rfl
   ·rw[decide_eq_true (show 0<s.1.length+s.2.1.length by omega),beq_eq_false_iff_ne.2 (show(s.1.length:Int)+(s.2.1.length:Int)≠0 by omega)];rfl
 subst hy;unfold begRM;rw[hm,gdT (inK_i64.2 ⟨by omega,by omega⟩),xG];have hin:(bif decide ((s.1.length:Int)+(s.2.1.length:Int)>20) then bO false else bif !(bif s.2.2.1 then decide (0<(keysN s.1 s.2.1).length) else s.2.2.2.1==[]) then bO false else some (c,()))=some (decide ((keysN s.1 s.2.1).length≤20)&&((bif s.2.2.1 then decide (0<(keysN s.1 s.2.1).length) else s.2.2.2.1==[])&&c),()):=by
  generalize (bif s.2.2.1 then decide (0<(keysN s.1 s.2.1).length) else s.2.2.2.1==[])=q;rw[hk];by_cases h:s.1.length+s.2.1.length≤20
  ·rw[cdF (by omega),decide_eq_true h];cases q<;>rfl
  ·rw[cdT (by omega),decide_eq_false h];rfl
 rw[hin];by_cases h1:0<s.1.length
 ·rw[cdT (by omega),decide_eq_true h1];by_cases h2:0<s.2.1.length
  ·rw[cdT (by omega),decide_eq_true h2];rfl
  ·rw[cdF (by omega),decide_eq_false h2];rfl
 ·rw[cdF (by omega),decide_eq_false h1];rfl
end Nice
namespace Go.Proofs.YtldllfocpadkeaaGreatDoor
open Go Go.Eng Nice Go.RowKit
set_option maxRecDepth 1000000
abbrev shrm:List (Nat×List (Nat×Sh)):=[(6,[(1,(.obj [(.dat .str),(.dat EntT),.sym,.sym])),(2,(.one .sym)),(4,(.one .sym)),(5,(.one .sym))]),(12,[(1,(.obj [(.dat .str),(.dat EntT),.sym,.sym])),(2,(.one .sym)),(4,(.one .sym)),(6,(.one .sym))])]
noncomputable def hrm0 (N:Nat) (n:List (List UInt8)) (l:List EntD) (b:Bool) (x t:List UInt8) (i:Int):BO:=rH Tryz.prog (envS [(74,isKeyS),(50,entS)]) (shOf shrm) Tryz.f110 [.bool] N 0 [(1,.pointer (some ⟨12,0,none⟩)),(2,.bool false),(4,sy (.string (bs t))),(5,sy (.int .i64 i))] [.dat .str n,.dat EntT l,.row [dt 10,dt 11,.bool b,sy (.string (bs x))] 39 false]
noncomputable def hrm1 (N:Nat) (n:List (List UInt8)) (l:List EntD) (b:Bool) (x t:List UInt8) (i:Int):BO:=rH Tryz.prog (envS [(74,isKeyS),(50,entS)]) (shOf shrm) Tryz.f110 [.bool] N 1 [(1,.pointer (some ⟨12,0,none⟩)),(2,.bool false),(4,sy (.string (bs t))),(6,sy (.int .i64 i))] [.dat .str n,.dat EntT l,.row [dt 10,dt 11,.bool b,sy (.string (bs x))] 39 false]
noncomputable def orm (x:DenL [ShT]):BO:=fO Tryz.prog (envS [(74,isKeyS),(50,entS)]) (shOf shrm) Tryz.f110 [ShT] [.bool] x
theorem orm_g (x:DenL [ShT]):orm x=fON Tryz.prog (envS [(74,isKeyS),(50,entS)]) (shOf shrm) Tryz.f110 [ShT] [.bool] heads0 x:=rfl
theorem ermT_g (N:Nat) (n:List (List UInt8)) (l:List EntD) (x:List UInt8):fON Tryz.prog (envS [(74,isKeyS),(50,entS)]) (shOf shrm) Tryz.f110 [ShT] [.bool] N ((n,l,true,x,()),())=begRM true (n,l,true,x,()) (hrm0 N n l true x [] 0):=by kernel_rfl
theorem ermF_g (N:Nat) (n:List (List UInt8)) (l:List EntD) (x:List UInt8):fON Tryz.prog (envS [(74,isKeyS),(50,entS)]) (shOf shrm) Tryz.f110 [ShT] [.bool] N ((n,l,false,x,()),())=begRM false (n,l,false,x,()) (hrm0 N n l false x [] 0):=by kernel_rfl
theorem erm0T (N:Nat) (n:List (List UInt8)) (l:List EntD) (x t:List UInt8) (i:Int):hrm0 (N+1) n l true x t i=stepR0 n t i (hrm0 N n l true x (n.getD i.toNat Ty.str.dflt) (i+1)) (hrm1 N n l true x t 0):=by kernel_rfl
theorem erm0F (N:Nat) (n:List (List UInt8)) (l:List EntD) (x t:List UInt8) (i:Int):hrm0 (N+1) n l false x t i=stepR0 n t i (hrm0 N n l false x (n.getD i.toNat Ty.str.dflt) (i+1)) (hrm1 N n l false x t 0):=by kernel_rfl
theorem erm1T (N:Nat) (n:List (List UInt8)) (l:List EntD) (x t:List UInt8) (i:Int):hrm1 (N+1) n l true x t i=stepR1 l t i (hrm1 N n l true x (l.getD i.toNat (EntT).dflt).1 (i+1)) (exR true x t):=by kernel_rfl
theorem erm1F (N:Nat) (n:List (List UInt8)) (l:List EntD) (x t:List UInt8) (i:Int):hrm1 (N+1) n l false x t i=stepR1 l t i (hrm1 N n l false x (l.getD i.toNat (EntT).dflt).1 (i+1)) (exR false x t):=by kernel_rfl
theorem erm0 (N:Nat) (n:List (List UInt8)) (l:List EntD) (b:Bool) (x t:List UInt8) (i:Int):hrm0 (N+1) n l b x t i=stepR0 n t i (hrm0 N n l b x (n.getD i.toNat Ty.str.dflt) (i+1)) (hrm1 N n l b x t 0):=by
 cases b
 ·exact erm0F N n l x t i
 ·exact erm0T N n l x t i
theorem erm1 (N:Nat) (n:List (List UInt8)) (l:List EntD) (b:Bool) (x t:List UInt8) (i:Int):hrm1 (N+1) n l b x t i=stepR1 l t i (hrm1 N n l b x (l.getD i.toNat (EntT).dflt).1 (i+1)) (exR b x t):=by
 cases b
 ·exact erm1F N n l x t i
 ·exact erm1T N n l x t i
theorem rm1_l (n:List (List UInt8)) (l:List EntD) (b:Bool) (x:List UInt8) (hl:l.length≤1099511627776) (hp:∀e,e∈l→entP e=true):∀(r i N:Nat) (t:List UInt8),l.length=i+r→r<N→hrm1 N n l b x t (i:Int)=some (riseE t (l.drop i)&&exRb b x (lastK t ((l.drop i).map (·.1))),()):=by
 intro r
 induction r with
 |zero=>
  intro i N t hi hN;obtain⟨N,rfl⟩:∃m,N=m+1:=⟨N-1,by omega⟩
  rw[erm1];unfold stepR1;rw[cdF (by omega),List.drop_eq_nil_of_le (by omega),exR_n];rfl
 |succ r ih=>
  intro i N t hi hN;obtain⟨N,rfl⟩:∃m,N=m+1:=⟨N-1,by omega⟩
  have hlt:i<l.length:=by omega
  have hd:l.drop i=l.getD i (EntT).dflt::l.drop (i+1):=by
   rw[List.drop_eq_getElem_cons hlt,List.getD_eq_getElem?_getD,List.getElem?_eq_getElem hlt];rfl
  have hh:entP (l.getD i (EntT).dflt)=true:=hp _ (by
   rw[List.getD_eq_getElem?_getD,List.getElem?_eq_getElem hlt];exact List.getElem_mem hlt)
  have this:=ih (i+1) N (l.getD i (EntT).dflt).1 (by omega) (by omega);simp only[Int.natCast_add,Int.natCast_one] at this;have hi1:inK .i64 ((i:Int)+1):=inK_i64.2 ⟨by omega,by omega⟩;have g1:decide (i<l.length)=true:=decide_eq_true hlt;have g2:decide ((0:Int)≤(i:Int))=true:=decide_eq_true (by omega);have g3:decide ((i:Int)<(l.length:Int))=true:=decide_eq_true (by omega)
  have hG:∀(q:List Bool) (y:BO),gd (gI l (i:Int)++q) y=gd q y:=fun q y=>by
   unfold gI;rw[show(i:Int).toNat=i from rfl,List.cons_append,List.cons_append,List.cons_append,List.nil_append,gdB g1,gdB g2,gdB g3]
  have hG0:∀(y:BO),gd (gI l (i:Int)) y=y:=fun y=>by have:=hG [] y;rw[List.append_nil] at this;rw[this,xG]
  rw[erm1];unfold stepR1;rw[cdT (by omega),show(i:Int).toNat=i from rfl,hd,riseE_cons,List.map_cons,this,less_not,show((l.getD i (EntT).dflt).1,(l.getD i (EntT).dflt).2.1,())=l.getD i (EntT).dflt from rfl];cases entB (l.getD i (EntT).dflt)
  ·rw[xF,gdB hh,hG0];rfl
  ·rw[xT,Bool.true_and];cases Op.bytesLess t (l.getD i (EntT).dflt).1
   ·rw[Bool.not_false,xT,List.append_assoc,hG,List.singleton_append,gdB hh,hG0];rfl
   ·rw[Bool.not_true,xF,gdT hi1,List.append_assoc,List.append_assoc,hG,hG,List.singleton_append,gdB hh,hG0,Bool.true_and];rfl
theorem rm0_l (n:List (List UInt8)) (l:List EntD) (b:Bool) (x:List UInt8) (hn:n.length≤1099511627776) (hk:∀k,k∈n→bndS k=true) (hl:l.length≤1099511627776) (hp:∀e,e∈l→entP e=true):∀(r i N:Nat) (t:List UInt8),n.length=i+r→r+l.length+2<N→hrm0 N n l b x t (i:Int)=some (riseK t (n.drop i)&&(riseE (lastK t (n.drop i)) l&&exRb b x (lastK (lastK t (n.drop i)) (l.map (·.1)))),()):=by
 intro r
 induction r with
 |zero=>
  intro i N t hi hN;obtain⟨N,rfl⟩:∃m,N=m+1:=⟨N-1,by omega⟩
  have:=rm1_l n l b x hl hp l.length 0 N t (by omega) (by omega);rw[erm0];unfold stepR0;rw[cdF (by omega),List.drop_eq_nil_of_le (by omega)];exact this
 |succ r ih=>
  intro i N t hi hN;obtain⟨N,rfl⟩:∃m,N=m+1:=⟨N-1,by omega⟩
  have hlt:i<n.length:=by omega
  have hd:n.drop i=n.getD i []::n.drop (i+1):=by
   rw[List.drop_eq_getElem_cons hlt,List.getD_eq_getElem?_getD,List.getElem?_eq_getElem hlt];rfl
  have hh:bndS (n.getD i [])=true:=hk _ (by
   rw[List.getD_eq_getElem?_getD,List.getElem?_eq_getElem hlt];exact List.getElem_mem hlt)
  have this:=ih (i+1) N (n.getD i []) (by omega) (by omega);simp only[Int.natCast_add,Int.natCast_one] at this;have hi1:inK .i64 ((i:Int)+1):=inK_i64.2 ⟨by omega,by omega⟩;have g1:decide (i<n.length)=true:=decide_eq_true hlt;have g2:decide ((0:Int)≤(i:Int))=true:=decide_eq_true (by omega);have g3:decide ((i:Int)<(n.length:Int))=true:=decide_eq_true (by omega)
  have hG:∀(q:List Bool) (y:BO),gd (gI n (i:Int)++q) y=gd q y:=fun q y=>by
   unfold gI;rw[show(i:Int).toNat=i from rfl,List.cons_append,List.cons_append,List.cons_append,List.nil_append,gdB g1,gdB g2,gdB g3]
  have hG0:∀(y:BO),gd (gI n (i:Int)) y=y:=fun y=>by have:=hG [] y;rw[List.append_nil] at this;rw[this,xG]
  rw[erm0];unfold stepR0;rw[cdT (by omega),show(i:Int).toNat=i from rfl,show n.getD i Ty.str.dflt=n.getD i [] from rfl,hd,riseK_cons,this,less_not];cases isKey (n.getD i [])
  ·rw[xF,gdB hh,hG0];rfl
  ·rw[xT,Bool.true_and];cases Op.bytesLess t (n.getD i [])
   ·rw[Bool.not_false,xT,List.append_assoc,hG,List.singleton_append,gdB hh,hG0];rfl
   ·rw[Bool.not_true,xF,gdT hi1,List.append_assoc,List.append_assoc,hG,hG,List.singleton_append,gdB hh,hG0,Bool.true_and];rfl
theorem rm_n {n:List (List UInt8)} {l:List EntD} {b:Bool} {x:List UInt8} (h:smayP (n,l,b,x,())=true):begRM b (n,l,b,x,()) (hrm0 heads0 n l b x [] 0)=some (smayN (n,l,b,x,()),()):=by
 obtain⟨h1,h2,h3⟩:=smayP_iff.1 h;have h4:=entsP_iff.1 h3;have h1:n.length≤1099511627776:=h1;have h5:l.length≤1099511627776:=h4.1;have:=rm0_l n l b x h1 h2 h5 h4.2 n.length 0 heads0 [] (by omega) (by unfold heads0;omega);rw[List.drop_zero] at this;refine(begRM_n (s:=(n,l,b,x,())) h1 h5 this).trans ?_;unfold smayN exRb
 dsimp only;rw[show keysN n l=n++l.map (·.1) from rfl,riseK_app,lastK_app,riseE_eq];exact congrArg (fun q=>some (q,())) (algM _ _ _ _ _ _ _ _ _)
theorem rsmay_c:PC 110 smayS:=(pureO (sh:=shOf shrm) (envS_ok (l:=[(74,isKeyS),(50,entS)]) ⟨rKey_c,rme_c,trivial⟩) gl_ne Tryz.func110 (by kernel_rfl) (by decide)).nice fun⟨⟨n,l,b,x,()⟩,()⟩ h=>by
 show orm _=some (smayN (n,l,b,x,()),());rw[orm_g];cases b
 ·rw[ermF_g];exact rm_n h
 ·rw[ermT_g];exact rm_n h
end Go.Proofs.YtldllfocpadkeaaGreatDoor
namespace Nice
open Go Go.Eng
def nowN (e:EntD):VerD×Bool:=bif e.2.1.length==0 then((0,false,[],()),false) else(lastV e, !(lastV e).2.1)
noncomputable def nowS:PSpec:=⟨[EntT],[VerT,.bool],fun x=>decide (x.1.2.1.length≤140737488355328),fun x=>((nowN x.1).1,(nowN x.1).2,())⟩
def fitB (b:Bool) (e:EntD):Bool:= !b||(nowN e).2
noncomputable def fitS (b:Bool):PSpec:=⟨[EntT],[.bool],fun x=>decide (x.1.2.1.length≤140737488355328),fun x=>(fitB b x.1,())⟩
noncomputable def cloneVS:PSpec:=⟨[.slice VerT],[.slice VerT],fun x=>decide (0<x.1.length)&&decide (x.1.length≤1000000),fun x=>(x.1,())⟩
def selP (p f:List UInt8) (b:Bool) (e:EntD):Bool:=hasPre e.1 p&&(!(Op.bytesLess e.1 f||e.1==f)&&fitB b e)
def mostN (k:Int):Int:=min (max k 1) 20
def selL (s:StD) (p f:List UInt8) (b:Bool):List EntD:=s.2.1.filter (selP p f b)
def pageL (s:StD) (p f:List UInt8) (k:Int) (b:Bool):List EntD:=(selL s p f b).take (mostN k).toNat
def pageM (s:StD) (p f:List UInt8) (k:Int) (b:Bool):Bool:=decide (mostN k<((selL s p f b).length:Int))
def pageP (s:StD):Bool:=decide (s.2.1.length≤40)&&s.2.1.all fun e=>decide (1≤e.2.1.length)&&decide (e.2.1.length≤12)
noncomputable def pageS (n:Nat) (b:Bool):PSpec:=⟨[StT,.str,.str,IT,.fn n],[.slice EntT,.bool],fun x=>pageP x.1,fun x=>(pageL x.1 x.2.1 x.2.2.1 x.2.2.2.1 b,pageM x.1 x.2.1 x.2.2.1 x.2.2.2.1 b,())⟩
def namesL (s:StD) (p f:List UInt8) (k:Int) (b:Bool):List (List UInt8):=(pageL s p f k b).map (·.1)
noncomputable def namesS:PSpec:=⟨[StT,.str,.str,IT],[.slice .str,.bool],fun x=>pageP x.1,fun x=>(namesL x.1 x.2.1 x.2.2.1 x.2.2.2.1 true,pageM x.1 x.2.1 x.2.2.1 x.2.2.2.1 true,())⟩
noncomputable def versS:PSpec:=⟨[StT,.str,.str,IT],[.slice EntT,.bool],fun x=>pageP x.1,fun x=>(pageL x.1 x.2.1 x.2.2.1 x.2.2.2.1 false,pageM x.1 x.2.1 x.2.2.1 x.2.2.2.1 false,())⟩
theorem bmay_page {s:StD} (h:bmayN s=true):pageP s=true:=by
 unfold bmayN at h;simp only[Bool.and_eq_true,decide_eq_true_eq] at h;obtain⟨-, -,h3, -,h5, -⟩:=h;unfold pageP;rw[Bool.and_eq_true,decide_eq_true_eq];refine⟨h3,List.all_eq_true.2 fun e he=> ?_⟩;obtain⟨i,hi,rfl⟩:=List.getElem_of_mem he;have:=allFr_iff.1 h5 i (Nat.zero_le _) (by omega);unfold bEnt at this
 rw[Bool.and_eq_true] at this;have e1:entAt s.2.1 i=s.2.1[i]:=by
  unfold entAt;rw[List.getD_eq_getElem?_getD,List.getElem?_eq_getElem hi];rfl
 have:=entB_len (e1▸this.1);rw[Bool.and_eq_true,decide_eq_true_eq,decide_eq_true_eq];exact this
abbrev PO:=Option (DenL [.slice EntT,.bool])
abbrev KO:=Option (DenL [.slice .str,.bool])
noncomputable def nowE (k:List UInt8) (l:List VerD):Option (DenL [VerT,.bool]):=
 bif (l.length:Int)==0 then some ((0,false,[],()),false,()) else gd [decide (((l.length:Int)-1).toNat<l.length),decide (0≤(l.length:Int)-1),decide ((l.length:Int)-1<(l.length:Int)),decide (inK .i64 ((l.length:Int)-1))]
  (bif (l.getD ((l.length:Int)-1).toNat (VerT).dflt).2.1 then some (l.getD ((l.length:Int)-1).toNat (VerT).dflt,false,()) else some (l.getD ((l.length:Int)-1).toNat (VerT).dflt,true,()))
theorem nowE_n {k:List UInt8} {l:List VerD} (h:l.length≤140737488355328):nowE k l=some ((nowN (k,l,())).1,(nowN (k,l,())).2,()):=by
 unfold nowE nowN;dsimp only;cases l with
 |nil=>rfl
 |cons v r=>
  have h1:(((v::r).length:Int)==0)=false:=by rw[beq_eq_false_iff_ne];simp only[List.length_cons];omega
  have h2:((v::r).length==0)=false:=rfl;have e1:(((v::r).length:Int)-1).toNat=(v::r).length-1:=by omega
  have hl:0<(v::r).length:=by simp
  rw[h1,h2,xF,xF,e1,gdT (by omega),gdT (by omega),gdT (by omega),gdT (inK_i64.2 ⟨by omega,by omega⟩),xG];show(bif (lastV (k,v::r,())).2.1 then some (lastV (k,v::r,()),false,()) else some (lastV (k,v::r,()),true,()))=_;cases h3:(lastV (k,v::r,())).2.1
  ·simp only[h3];rfl
  ·simp only[h3];rfl
noncomputable def pgStep (b:Bool) (p f:List UInt8) (k:Int) (l o:List EntD) (m i:Int) (nx:List EntD→PO):PO:=
 bif decide (i<m) then gd [decide (i.toNat<l.length),decide (0≤i),decide (i<(l.length:Int))]
  (bif hasPre (l.getD i.toNat (EntT).dflt).1 p then(bif !(Op.bytesLess (l.getD i.toNat (EntT).dflt).1 f||(l.getD i.toNat (EntT).dflt).1==f) then
   (bif fitB b ((l.getD i.toNat (EntT).dflt).1,(l.getD i.toNat (EntT).dflt).2.1,()) then
     gd [decide (inK .i64 (i+1)),decide ((2*(o.length+[((l.getD i.toNat (EntT).dflt).1,(l.getD i.toNat (EntT).dflt).2.1,())].length)+400)*40≤281474976710656),decide (0<(l.getD i.toNat (EntT).dflt).2.1.length)&&decide ((l.getD i.toNat (EntT).dflt).2.1.length≤1000000),decide ((l.getD i.toNat (EntT).dflt).2.1.length≤140737488355328)] (nx (o++[((l.getD i.toNat (EntT).dflt).1,(l.getD i.toNat (EntT).dflt).2.1,())]))
    else gd [decide (inK .i64 (i+1)),decide ((l.getD i.toNat (EntT).dflt).2.1.length≤140737488355328)] (nx o))
   else gd [decide (inK .i64 (i+1))] (nx o)) else gd [decide (inK .i64 (i+1))] (nx o))
 else bif decide ((o.length:Int)>k) then gd [decide (0≤min (o.length:Int) k),decide (min (o.length:Int) k≤(o.length:Int))] (some (List.take (min (o.length:Int) k).toNat o,true,()))
  else gd [decide (0≤min (o.length:Int) k),decide (min (o.length:Int) k≤(o.length:Int))] (some (List.take (min (o.length:Int) k).toNat o,false,()))
theorem pg_l {b:Bool} {p f:List UInt8} {k:Int} {l:List EntD} {h:Nat→List EntD→Int→PO} (he:∀N o i,h (N+1) o i=pgStep b p f k l o (l.length:Int) i (fun o'=>h N o' (i+1))) (hk:0≤k) (hl:l.length≤40) (hv:∀e,e∈l→1≤e.2.1.length∧e.2.1.length≤12):
  ∀(r i N:Nat) (o:List EntD),l.length=i+r→r<N→o.length≤i→h N o (i:Int)=some ((o++(l.drop i).filter (selP p f b)).take k.toNat,decide (k<((o++(l.drop i).filter (selP p f b)).length:Int)),()):=by
 intro r
 induction r with
 |zero=>
  intro i N o hi hN ho;obtain⟨N,rfl⟩:∃k,N=k+1:=⟨N-1,by omega⟩
  rw[he];unfold pgStep;rw[cdF (by omega),List.drop_eq_nil_of_le (by omega),List.filter_nil,List.append_nil];have et:∀n:Nat,n=(min (o.length:Int) k).toNat→List.take n o=o.take k.toNat:=fun n hn=>by
   by_cases hlt:o.length≤k.toNat
   ·rw[List.take_of_length_le hlt,List.take_of_length_le (by omega)]
   ·rw[hn,show(min (o.length:Int) k).toNat=k.toNat by omega]
  by_cases h1:(o.length:Int)>k
  ·rw[cdT h1,gdT (by omega),gdT (by omega),xG,et _ rfl,decide_eq_true (show k<(o.length:Int) by omega)]
  ·rw[cdF h1,gdT (by omega),gdT (by omega),xG,et _ rfl,decide_eq_false (show ¬k<(o.length:Int) by omega)]
 |succ r ih=>
  intro i N o hi hN ho;obtain⟨N,rfl⟩:∃k,N=k+1:=⟨N-1,by omega⟩
  have hlt:i<l.length:=by omega
  have hk1:inK .i64 ((i:Int)+1):=inK_i64.2 ⟨by omega,by omega⟩;have hd:l.drop i=entAt l i::l.drop (i+1):=by
   rw[List.drop_eq_getElem_cons hlt];congr 1;unfold entAt;rw[List.getD_eq_getElem?_getD,List.getElem?_eq_getElem hlt];rfl
  obtain⟨v1,v2⟩:=hv (entAt l i) (by
   show l.getD i _∈l;rw[List.getD_eq_getElem?_getD,List.getElem?_eq_getElem hlt];exact List.getElem_mem hlt)
  have hno:∀o':List EntD,o'.length≤i+1→h N o' ((i:Int)+1)=some ((o'++(l.drop (i+1)).filter (selP p f b)).take k.toNat,decide (k<((o'++(l.drop (i+1)).filter (selP p f b)).length:Int)),()):=fun o' h'=>by
   have:=ih (i+1) N o' (by omega) (by omega) h';simpa only[Int.natCast_add,Int.natCast_one] using this
  have skip:selP p f b (entAt l i)=false→h N o ((i:Int)+1)=some ((o++(l.drop i).filter (selP p f b)).take k.toNat,decide (k<((o++(l.drop i).filter (selP p f b)).length:Int)),()):=fun hs=>by
   rw[hd,List.filter_cons_of_neg (by rw[hs];exact Bool.false_ne_true)];exact hno o (by omega)
  have take:selP p f b (entAt l i)=true→h N (o++[entAt l i]) ((i:Int)+1)=some ((o++(l.drop i).filter (selP p f b)).take k.toNat,decide (k<((o++(l.drop i).filter (selP p f b)).length:Int)),()):=fun hs=>by
   have:=hno (o++[entAt l i]) (by rw[List.length_append,List.length_singleton];omega);rw[hd,List.filter_cons_of_pos hs];simpa only[List.append_assoc,List.singleton_append] using this
  rw[he];unfold pgStep;rw[cdT (by omega),gdT (by omega),gdT (by omega),gdT (by omega),xG];show(bif hasPre (entAt l i).1 p then(bif !(Op.bytesLess (entAt l i).1 f||(entAt l i).1==f) then(bif fitB b (entAt l i) then gd [decide (inK .i64 ((i:Int)+1)),decide ((2*(o.length+[entAt l i].length)+400)*40≤281474976710656),decide (0<(entAt l i).2.1.length)&&decide ((entAt l i).2.1.length≤1000000),decide ((entAt l i).2.1.length≤140737488355328)] (h N (o++[entAt l i]) ((i:Int)+1)) else gd [decide (inK .i64 ((i:Int)+1)),decide ((entAt l i).2.1.length≤140737488355328)] (h N o ((i:Int)+1))) else gd [decide (inK .i64 ((i:Int)+1))] (h N o ((i:Int)+1))) else gd [decide (inK .i64 ((i:Int)+1))] (h N o ((i:Int)+1)))=_
  cases q1:hasPre (entAt l i).1 p
  ·rw[xF,gdT hk1,xG];exact skip (by unfold selP;rw[q1];rfl)
  cases q2: !(Op.bytesLess (entAt l i).1 f||(entAt l i).1==f)
  ·rw[xT,xF,gdT hk1,xG];exact skip (by unfold selP;rw[q1,q2];rfl)
  cases q3:fitB b (entAt l i)
  ·rw[xT,xT,xF,gdT hk1,gdT (by omega),xG];exact skip (by unfold selP;rw[q1,q2,q3];rfl)
  rw[xT,xT,xT,gdT hk1,gdT (by simp only[List.length_singleton];omega),gdB (by rw[decide_eq_true (show 0<(entAt l i).2.1.length by omega),decide_eq_true (show(entAt l i).2.1.length≤1000000 by omega)];rfl),gdT (by omega),xG];exact take (by unfold selP;rw[q1,q2,q3];rfl)
noncomputable def nmStep (g:Bool) (l:List EntD) (o:List (List UInt8)) (m i:Int) (nx:List (List UInt8)→KO):KO:=
 bif decide (i<m) then gd [decide (inK .i64 (i+1)),decide ((2*(o.length+[(l.getD i.toNat (EntT).dflt).1].length)+400)*16≤281474976710656),decide (i.toNat<l.length),decide (0≤i),decide (i<(l.length:Int))] (nx (o++[(l.getD i.toNat (EntT).dflt).1])) else some (o,g,())
theorem nm_l {g:Bool} {l:List EntD} {h:Nat→List (List UInt8)→Int→KO} (he:∀N o i,h (N+1) o i=nmStep g l o (l.length:Int) i (fun o'=>h N o' (i+1))) (hl:l.length≤1000):
  ∀(r i N:Nat) (o:List (List UInt8)),l.length=i+r→r<N→o.length≤i→h N o (i:Int)=some (o++(l.drop i).map (·.1),g,()):=by
 intro r
 induction r with
 |zero=>
  intro i N o hi hN ho;obtain⟨N,rfl⟩:∃k,N=k+1:=⟨N-1,by omega⟩
  rw[he];unfold nmStep;rw[cdF (by omega),List.drop_eq_nil_of_le (by omega),List.map_nil,List.append_nil]
 |succ r ih=>
  intro i N o hi hN ho;obtain⟨N,rfl⟩:∃k,N=k+1:=⟨N-1,by omega⟩
  have hlt:i<l.length:=by omega
  have hd:l.drop i=entAt l i::l.drop (i+1):=by
   rw[List.drop_eq_getElem_cons hlt];congr 1;unfold entAt;rw[List.getD_eq_getElem?_getD,List.getElem?_eq_getElem hlt];rfl
  have:=ih (i+1) N (o++[(entAt l i).1]) (by omega) (by omega) (by rw[List.length_append,List.length_singleton];omega);simp only[Int.natCast_add,Int.natCast_one] at this;rw[he];unfold nmStep;rw[cdT (by omega),gdT (inK_i64.2 ⟨by omega,by omega⟩),gdT (by simp only[List.length_singleton];omega),gdT (by omega),gdT (by omega),gdT (by omega),xG,hd,List.map_cons]
  refine this.trans ?_;rw[List.append_assoc,List.singleton_append]
theorem most_nn (k:Int):0≤mostN k:=by unfold mostN;omega
theorem pageP_h {s:StD} (h:pageP s=true):s.2.1.length≤40∧∀e,e∈s.2.1→1≤e.2.1.length∧e.2.1.length≤12:=by
 unfold pageP at h;rw[Bool.and_eq_true,decide_eq_true_eq,List.all_eq_true] at h;exact⟨h.1,fun e he=>by have:=h.2 e he;rwa[Bool.and_eq_true,decide_eq_true_eq,decide_eq_true_eq] at this⟩
theorem page_len {s:StD} {p f:List UInt8} {k:Int} {b:Bool}:(pageL s p f k b).length≤20:=by
 unfold pageL mostN;rw[List.length_take];omega
end Nice
namespace Go.Proofs.YtldllfocpadkeaaGreatDoor
open Go Go.Eng Nice
set_option maxRecDepth 1000000
noncomputable def onow (x:DenL [EntT]):Option (DenL [VerT,.bool]):=fO Tryz.prog (envS []) (shOf []) Tryz.f96 [EntT] [VerT,.bool] x
theorem enow (k:List UInt8) (l:List VerD):onow ((k,l,()),())=nowE k l:=by kernel_rfl
theorem now_c:PC 96 nowS:=(pureO (envS_ok (l:=[]) trivial) gl_ne Tryz.func96 (by kernel_rfl) (by decide)).nice fun⟨⟨k,l,()⟩,()⟩ h=>by
 show onow _=_;rw[enow];exact nowE_n (of_decide_eq_true h)
noncomputable def onowB (x:DenL [EntT]):BO:=fO Tryz.prog (envS [(96,nowS)]) (shOf []) Tryz.f95 [EntT] [.bool] x
theorem enowB (k:List UInt8) (l:List VerD):onowB ((k,l,()),())=(bif (nowN (k,l,())).2 then gd [decide (l.length≤140737488355328)] (bO true) else gd [decide (l.length≤140737488355328)] (bO false)):=by kernel_rfl
theorem fitT_c:PC 95 (fitS true):=(pureO (envS_ok (l:=[(96,nowS)]) ⟨now_c,trivial⟩) gl_ne Tryz.func95 (by kernel_rfl) (by decide)).nice fun⟨⟨k,l,()⟩,()⟩ h=>by
 have h:l.length≤140737488355328:=of_decide_eq_true h;show onowB _=some ((nowN (k,l,())).2,());rw[enowB];cases(nowN (k,l,())).2
 ·rw[xF,gdT h,xG];rfl
 ·rw[xT,gdT h,xG];rfl
noncomputable def oallB (x:DenL [EntT]):BO:=fO Tryz.prog (envS []) (shOf []) Tryz.f97 [EntT] [.bool] x
theorem eallB (k:List UInt8) (l:List VerD):oallB ((k,l,()),())=bO true:=by kernel_rfl
theorem fitF_c:PC 97 (fitS false):=(pureO (envS_ok (l:=[]) trivial) gl_ne Tryz.func97 (by kernel_rfl) (by decide)).nice fun⟨⟨k,l,()⟩,()⟩ h=>by
 show oallB _=some (true,());rw[eallB];rfl
noncomputable def ocloneV (x:DenL [.slice VerT]):Option (DenL [.slice VerT]):=fO Tryz.prog (envS []) (shOf []) Tryz.f143 [.slice VerT] [.slice VerT] x
theorem ecloneV (l:List VerD):ocloneV (l,())=gd [decide ((2*(0+l.length)+400)*32≤281474976710656),decide (0<l.length)] (some (l,())):=by kernel_rfl
theorem cloneV_c:PC 143 cloneVS:=(pureO (envS_ok (l:=[]) trivial) gl_ne Tryz.func143 (by kernel_rfl) (by decide)).nice fun⟨l,()⟩ h=>by
 have h:(decide (0<List.length (α:=VerD) l)&&decide (List.length (α:=VerD) l≤1000000))=true:=h;rw[Bool.and_eq_true,decide_eq_true_eq,decide_eq_true_eq] at h;show ocloneV _=_;rw[ecloneV,gdT (by omega),gdT h.1,xG]
noncomputable def ohp8 (x:DenL [.str,.str]):BO:=fO Tryz.prog (envS [(131,hasPreS)]) (shOf []) Tryz.f88 [.str,.str] [.bool] x
theorem ehp8 (s p:List UInt8):ohp8 (s,p,())=(bif hasPre s p then bO true else bO false):=by kernel_rfl
theorem hp8_c:PC 88 hasPreS:=(pureO (envS_ok (l:=[(131,hasPreS)]) ⟨hp_c,trivial⟩) gl_ne Tryz.func88 (by kernel_rfl) (by decide)).nice fun⟨s,p,()⟩ _=>by
 show ohp8 _=some (hasPre s p,());rw[ehp8];cases hasPre s p<;>rfl
abbrev shpg:List (Nat×List (Nat×Sh)):=[(4,[(1,(.one .sym)),(2,(.one .sym)),(3,(.one .sym)),(4,(.one .any)),(10,(.one .any)),(11,(.one .sym)),(12,(.one (.vec EntT 44))),(19,(.one (.dat EntT))),(20,(.one .sym)),(21,(.one .sym))])]
noncomputable abbrev enPG (n:Nat) (b:Bool):Eng.Env:=envS [(88,hasPreS),(143,cloneVS),(n,fitS b)]
noncomputable def hpg (n:Nat) (b:Bool) (N:Nat) (p f:List UInt8) (k:Int) (o l:List EntD) (m i:Int):PO:=rH Tryz.prog (enPG n b) (shOf shpg) Tryz.f94 [.slice EntT,.bool] N 0 [(1,sy (.string (bs p))),(2,sy (.string (bs f))),(3,sy (.int .i64 k)),(4,Value.func (Fn.func n) { toList:=[]} { toList:=[]}),(10,Value.slice none 0 0),(11,.bool false),(12,dt 10),(19,dt 11),(20,sy (.int .i64 m)),(21,sy (.int .i64 i))] [.vec EntT o 44,.dat EntT l]
noncomputable def opg (n:Nat) (b:Bool) (x:DenL [StT,.str,.str,IT,.fn n]):PO:=fO Tryz.prog (enPG n b) (shOf shpg) Tryz.f94 [StT,.str,.str,IT,.fn n] [.slice EntT,.bool] x
theorem opg_g (n:Nat) (b:Bool) (x:DenL [StT,.str,.str,IT,.fn n]):opg n b x=fON Tryz.prog (enPG n b) (shOf shpg) Tryz.f94 [StT,.str,.str,IT,.fn n] [.slice EntT,.bool] heads0 x:=rfl
theorem epgT_g (N:Nat) (q:Int) (l:List EntD) (m:List MemoD) (a b c d e:Int) (p f:List UInt8) (k:Int):fON Tryz.prog (enPG 95 true) (shOf shpg) Tryz.f94 [StT,.str,.str,IT,.fn 95] [.slice EntT,.bool] N ((q,l,m,(a,b,c,d,e,()),()),p,f,k,(),())=hpg 95 true N p f (mostN k) [] l (l.length:Int) 0:=by kernel_rfl
theorem epgF_g (N:Nat) (q:Int) (l:List EntD) (m:List MemoD) (a b c d e:Int) (p f:List UInt8) (k:Int):fON Tryz.prog (enPG 97 false) (shOf shpg) Tryz.f94 [StT,.str,.str,IT,.fn 97] [.slice EntT,.bool] N ((q,l,m,(a,b,c,d,e,()),()),p,f,k,(),())=hpg 97 false N p f (mostN k) [] l (l.length:Int) 0:=by kernel_rfl
theorem epgT_0 (N:Nat) (p f:List UInt8) (k:Int) (o l:List EntD) (m i:Int):hpg 95 true (N+1) p f k o l m i=pgStep true p f k l o m i (fun o'=>hpg 95 true N p f k o' l m (i+1)):=by kernel_rfl
theorem epgF_0 (N:Nat) (p f:List UInt8) (k:Int) (o l:List EntD) (m i:Int):hpg 97 false (N+1) p f k o l m i=pgStep false p f k l o m i (fun o'=>hpg 97 false N p f k o' l m (i+1)):=by kernel_rfl
theorem pgT_n {s:StD} (h:pageP s=true) (p f:List UInt8) (k:Int):opg 95 true (s,p,f,k,(),())=some (pageL s p f k true,pageM s p f k true,()):=by
 obtain⟨q,l,m,⟨a,b,c,d,e,⟨⟩⟩,⟨⟩⟩:=s;obtain⟨h1,h2⟩:=pageP_h h;rw[opg_g,epgT_g];have:=pg_l (b:=true) (p:=p) (f:=f) (k:=mostN k) (l:=l) (h:=fun N o i=>hpg 95 true N p f (mostN k) o l (l.length:Int) i) (fun N o i=>epgT_0 N p f (mostN k) o l _ i) (most_nn k) h1 h2 l.length 0 heads0 [] (by omega) (Nat.lt_of_le_of_lt h1 (by unfold heads0;omega)) (Nat.le_refl _)
 exact this
theorem pgF_n {s:StD} (h:pageP s=true) (p f:List UInt8) (k:Int):opg 97 false (s,p,f,k,(),())=some (pageL s p f k false,pageM s p f k false,()):=by
 obtain⟨q,l,m,⟨a,b,c,d,e,⟨⟩⟩,⟨⟩⟩:=s;obtain⟨h1,h2⟩:=pageP_h h;rw[opg_g,epgF_g];have:=pg_l (b:=false) (p:=p) (f:=f) (k:=mostN k) (l:=l) (h:=fun N o i=>hpg 97 false N p f (mostN k) o l (l.length:Int) i) (fun N o i=>epgF_0 N p f (mostN k) o l _ i) (most_nn k) h1 h2 l.length 0 heads0 [] (by omega) (Nat.lt_of_le_of_lt h1 (by unfold heads0;omega)) (Nat.le_refl _)
 exact this
theorem pgT_c:PC 94 (pageS 95 true):=(pureO (sh:=shOf shpg) (envS_ok (l:=[(88,hasPreS),(143,cloneVS),(95,fitS true)]) ⟨hp8_c,cloneV_c,fitT_c,trivial⟩) gl_ne Tryz.func94 (by kernel_rfl) (by decide)).nice fun⟨s,p,f,k,(),()⟩ h=>pgT_n h p f k
theorem pgF_c:PC 94 (pageS 97 false):=(pureO (sh:=shOf shpg) (envS_ok (l:=[(88,hasPreS),(143,cloneVS),(97,fitS false)]) ⟨hp8_c,cloneV_c,fitF_c,trivial⟩) gl_ne Tryz.func94 (by kernel_rfl) (by decide)).nice fun⟨s,p,f,k,(),()⟩ h=>pgF_n h p f k
abbrev shnm:List (Nat×List (Nat×Sh)):=[(4,[(8,(.one .any)),(9,(.one .sym)),(11,(.one .sym)),(12,(.one (.vec .str 9))),(23,(.one (.dat EntT))),(24,(.one .sym)),(25,(.one .sym))])]
noncomputable abbrev enNM:Eng.Env:=envS [(94,pageS 95 true)]
noncomputable def hnm (N:Nat) (g:Bool) (o:List (List UInt8)) (l:List EntD) (m i:Int):KO:=rH Tryz.prog enNM (shOf shnm) Tryz.f53 [.slice .str,.bool] N 0 [(8,Value.slice none 0 0),(9,.bool false),(11,.bool g),(12,dt 10),(23,dt 11),(24,sy (.int .i64 m)),(25,sy (.int .i64 i))] [.vec .str o 9,.dat EntT l]
noncomputable def onm (x:DenL [StT,.str,.str,IT]):KO:=fO Tryz.prog enNM (shOf shnm) Tryz.f53 [StT,.str,.str,IT] [.slice .str,.bool] x
theorem onm_g (x:DenL [StT,.str,.str,IT]):onm x=fON Tryz.prog enNM (shOf shnm) Tryz.f53 [StT,.str,.str,IT] [.slice .str,.bool] heads0 x:=rfl
noncomputable def nmB (N:Nat) (s:StD) (p f:List UInt8) (k:Int):KO:=bif pageM s p f k true then gd [pageP s] (hnm N true [] (pageL s p f k true) ((pageL s p f k true).length:Int) 0) else gd [pageP s] (hnm N false [] (pageL s p f k true) ((pageL s p f k true).length:Int) 0)
theorem enm_g (N:Nat) (q:Int) (l:List EntD) (m:List MemoD) (a b c d e:Int) (p f:List UInt8) (k:Int):fON Tryz.prog enNM (shOf shnm) Tryz.f53 [StT,.str,.str,IT] [.slice .str,.bool] N ((q,l,m,(a,b,c,d,e,()),()),p,f,k,())=nmB N (q,l,m,(a,b,c,d,e,()),()) p f k:=by kernel_rfl
theorem enmT_0 (N:Nat) (o:List (List UInt8)) (l:List EntD) (m i:Int):hnm (N+1) true o l m i=nmStep true l o m i (fun o'=>hnm N true o' l m (i+1)):=by kernel_rfl
theorem enmF_0 (N:Nat) (o:List (List UInt8)) (l:List EntD) (m i:Int):hnm (N+1) false o l m i=nmStep false l o m i (fun o'=>hnm N false o' l m (i+1)):=by kernel_rfl
theorem nm_n {s:StD} (h:pageP s=true) (p f:List UInt8) (k:Int):onm (s,p,f,k,())=some (namesL s p f k true,pageM s p f k true,()):=by
 obtain⟨q,l,m,⟨a,b,c,d,e,⟨⟩⟩,⟨⟩⟩:=s;rw[onm_g,enm_g];unfold nmB;have hl:=page_len (s:=(q,l,m,(a,b,c,d,e,()),())) (p:=p) (f:=f) (k:=k) (b:=true);have hh:(pageL (q,l,m,(a,b,c,d,e,()),()) p f k true).length<heads0:=Nat.lt_of_le_of_lt hl (by unfold heads0;omega);cases pageM (q,l,m,(a,b,c,d,e,()),()) p f k true
 ·rw[xF,gdB h,xG];exact nm_l (h:=fun N o i=>hnm N false o (pageL (q,l,m,(a,b,c,d,e,()),()) p f k true) _ i) (fun N o i=>enmF_0 N o _ _ i) (by omega) _ 0 heads0 [] (Nat.zero_add _).symm hh (Nat.le_refl _)
 ·rw[xT,gdB h,xG];exact nm_l (h:=fun N o i=>hnm N true o (pageL (q,l,m,(a,b,c,d,e,()),()) p f k true) _ i) (fun N o i=>enmT_0 N o _ _ i) (by omega) _ 0 heads0 [] (Nat.zero_add _).symm hh (Nat.le_refl _)
theorem names_c:PC 53 namesS:=(pureO (sh:=shOf shnm) (envS_ok (l:=[(94,pageS 95 true)]) ⟨pgT_c,trivial⟩) gl_ne Tryz.func53 (by kernel_rfl) (by decide)).nice fun⟨s,p,f,k,()⟩ h=>nm_n h p f k
noncomputable def ovs (x:DenL [StT,.str,.str,IT]):PO:=fO Tryz.prog (envS [(94,pageS 97 false)]) (shOf []) Tryz.f54 [StT,.str,.str,IT] [.slice EntT,.bool] x
noncomputable def vsB (s:StD) (p f:List UInt8) (k:Int):PO:=bif pageM s p f k false then gd [pageP s] (some (pageL s p f k false,true,())) else gd [pageP s] (some (pageL s p f k false,false,()))
theorem evs (q:Int) (l:List EntD) (m:List MemoD) (a b c d e:Int) (p f:List UInt8) (k:Int):ovs ((q,l,m,(a,b,c,d,e,()),()),p,f,k,())=vsB (q,l,m,(a,b,c,d,e,()),()) p f k:=by kernel_rfl
theorem vers_c:PC 54 versS:=(pureO (envS_ok (l:=[(94,pageS 97 false)]) ⟨pgF_c,trivial⟩) gl_ne Tryz.func54 (by kernel_rfl) (by decide)).nice fun⟨⟨q,l,m,⟨a,b,c,d,e,()⟩,()⟩,p,f,k,()⟩ h=>by
 have h:pageP (q,l,m,(a,b,c,d,e,()),())=true:=h;show ovs _=some (pageL (q,l,m,(a,b,c,d,e,()),()) p f k false,pageM (q,l,m,(a,b,c,d,e,()),()) p f k false,());rw[evs];unfold vsB;cases pageM (q,l,m,(a,b,c,d,e,()),()) p f k false
 ·rw[xF,gdB h,xG]
 ·rw[xT,gdB h,xG]
end Go.Proofs.YtldllfocpadkeaaGreatDoor
namespace Nice
open Go Go.Eng
abbrev AO1:=Option (DenL [AskT])
abbrev HO1:=Option (DenL [ShT])
def acutN (a:AskD):AskD:=(a.1,cut a.2.1 42,a.2.2.1,cut a.2.2.2.1 302,a.2.2.2.2.1,cut a.2.2.2.2.2.1 10,cut a.2.2.2.2.2.2.1 42,cut a.2.2.2.2.2.2.2.1 42,a.2.2.2.2.2.2.2.2.1,a.2.2.2.2.2.2.2.2.2.1,())
noncomputable def acutS:PSpec:=⟨[AskT],[AskT],fun _=>true,fun x=>(acutN x.1,())⟩
def zSh:ShD:=([],[],false,[],())
def lastN (l:List (List UInt8)):List UInt8:=l.getD (l.length-1) Ty.str.dflt
def nmSh (l:List (List UInt8)) (g:Bool):ShD:=(l,[],g,bif g then lastN l else [],())
def enSh (l:List EntD) (g:Bool):ShD:=([],l,g,bif g then(entAt l (l.length-1)).1 else [],())
def leafB (s:StD) (a:AskD):ShD:=bif a.1==4 then nmSh (namesL s a.2.2.2.2.2.2.1 a.2.2.2.2.2.2.2.1 a.2.2.2.2.2.2.2.2.1 true) (pageM s a.2.2.2.2.2.2.1 a.2.2.2.2.2.2.2.1 a.2.2.2.2.2.2.2.2.1 true)
 else bif a.1==5 then enSh (pageL s a.2.2.2.2.2.2.1 a.2.2.2.2.2.2.2.1 a.2.2.2.2.2.2.2.2.1 false) (pageM s a.2.2.2.2.2.2.1 a.2.2.2.2.2.2.2.1 a.2.2.2.2.2.2.2.2.1 false) else zSh
def leafN (s:StD) (a:AskD):ShD:=bif bmayN s then(bif mayN a then leafB s a else zSh) else zSh
def leafP (s:StD) (a:AskD):Bool:=bmayP s&&askP a
noncomputable def leafS:PSpec:=⟨[StT,AskT],[ShT],fun x=>leafP x.1 x.2.1,fun x=>(leafN x.1 x.2.1,())⟩
noncomputable abbrev gLast {α:Type} (l:List α):List Bool:=[decide (((l.length:Int)-1).toNat<l.length),decide (0≤(l.length:Int)-1),decide ((l.length:Int)-1<(l.length:Int)),decide (inK .i64 ((l.length:Int)-1))]
theorem gLast_ok {α β:Type} {l:List α} (h0:0<l.length) (h1:l.length≤1000) (ps:List Bool) (y:Option β):gd (gLast l++ps) y=gd ps y:=by
 unfold gLast;simp only[List.cons_append,List.nil_append];rw[gdT (by omega),gdT (by omega),gdT (by omega),gdT (inK_i64.2 ⟨by omega,by omega⟩)]
noncomputable def nmE (s:StD) (l:List (List UInt8)) (g:Bool):HO1:=bif g then gd (gLast l++[pageP s]) (some ((l,[],true,l.getD ((l.length:Int)-1).toNat Ty.str.dflt,()),())) else gd [pageP s] (some ((l,[],false,[],()),()))
noncomputable def enE (s:StD) (l:List EntD) (g:Bool):HO1:=bif g then gd (gLast l++[pageP s]) (some (([],l,true,(l.getD ((l.length:Int)-1).toNat (EntT).dflt).1,()),())) else gd [pageP s] (some (([],l,false,[],()),()))
theorem nmE_n {s:StD} {l:List (List UInt8)} {g:Bool} (hp:pageP s=true) (hl:l.length≤1000) (h0:g=true→0<l.length):nmE s l g=some (nmSh l g,()):=by
 unfold nmE nmSh;cases g
 ·rw[xF,gdB hp,xG];rfl
 ·have:=h0 rfl;rw[xT,gLast_ok this hl,gdB hp,xG,show((l.length:Int)-1).toNat=l.length-1 by omega];rfl
theorem enE_n {s:StD} {l:List EntD} {g:Bool} (hp:pageP s=true) (hl:l.length≤1000) (h0:g=true→0<l.length):enE s l g=some (enSh l g,()):=by
 unfold enE enSh;cases g
 ·rw[xF,gdB hp,xG];rfl
 ·have:=h0 rfl;rw[xT,gLast_ok this hl,gdB hp,xG,show((l.length:Int)-1).toNat=l.length-1 by omega];rfl
theorem page_more {s:StD} {p f:List UInt8} {k:Int} {b:Bool} (h:pageM s p f k b=true):((pageL s p f k b).length:Int)=mostN k:=by
 have h:mostN k<((selL s p f b).length:Int):=of_decide_eq_true h;have h0:=most_nn k;unfold pageL;rw[List.length_take];omega
theorem most_pos (k:Int):1≤mostN k:=by unfold mostN;omega
noncomputable def leafE (s:StD) (a:AskD):HO1:=
 bif bmayN s then(bif mayN a then gd [askP a,bmayP s] (bif a.1==4 then nmE s (namesL s a.2.2.2.2.2.2.1 a.2.2.2.2.2.2.2.1 a.2.2.2.2.2.2.2.2.1 true) (pageM s a.2.2.2.2.2.2.1 a.2.2.2.2.2.2.2.1 a.2.2.2.2.2.2.2.2.1 true)
  else bif a.1==5 then enE s (pageL s a.2.2.2.2.2.2.1 a.2.2.2.2.2.2.2.1 a.2.2.2.2.2.2.2.2.1 false) (pageM s a.2.2.2.2.2.2.1 a.2.2.2.2.2.2.2.1 a.2.2.2.2.2.2.2.2.1 false) else some (zSh,())) else gd [askP a,bmayP s] (some (zSh,()))) else gd [bmayP s] (some (zSh,()))
theorem leafE_n {s:StD} {a:AskD} (h:leafP s a=true):leafE s a=some (leafN s a,()):=by
 unfold leafP at h;rw[Bool.and_eq_true] at h;unfold leafE leafN;cases hb:bmayN s
 ·rw[xF,xF,gdB h.1,xG]
 rw[xT,xT];have hp:=bmay_page hb;cases mayN a
 ·rw[xF,xF,gdB h.2,gdB h.1,xG]
 rw[xT,xT,gdB h.2,gdB h.1,xG];unfold leafB;cases a.1==4
 ·rw[xF,xF];cases a.1==5
  ·rw[xF,xF]
  ·rw[xT,xT];refine enE_n hp (Nat.le_trans page_len (by omega)) fun hg=> ?_
   have:=page_more hg;have:=most_pos a.2.2.2.2.2.2.2.2.1;omega
 ·rw[xT,xT];refine nmE_n hp ?_ fun hg=> ?_
  ·unfold namesL;rw[List.length_map];exact Nat.le_trans page_len (by omega)
  ·have:=page_more hg;have:=most_pos a.2.2.2.2.2.2.2.2.1;unfold namesL;rw[List.length_map];omega
end Nice
namespace Go.Proofs.YtldllfocpadkeaaGreatDoor
open Go Go.Eng Nice
set_option maxRecDepth 1000000
theorem am_c:PC 17 mayDS:=by
 have e:amayS=mayDS:=by
  unfold amayS mayDS;congr 1;funext x;rw[request_ok];cases mayN x.1<;>rfl
 rw[←e];exact amay_c
noncomputable def oacut (x:DenL [AskT]):AO1:=fO Tryz.prog (envS [(28,cutS)]) (shOf []) Tryz.f14 [AskT] [AskT] x
theorem eacut (kd:Int) (key:List UInt8) (v:Int) (bo:List UInt8) (co:Int) (t p f:List UInt8) (mx:Int) (ba:Bool):oacut ((kd,key,v,bo,co,t,p,f,mx,ba,()),())=some (acutN (kd,key,v,bo,co,t,p,f,mx,ba,()),()):=by kernel_rfl
theorem acut_c:PC 14 acutS:=(pureO (envS_ok (l:=[(28,cutS)]) ⟨cut_c,trivial⟩) gl_ne Tryz.func14 (by kernel_rfl) (by decide)).nice fun⟨⟨kd,key,v,bo,co,t,p,f,mx,ba,()⟩,()⟩ _=>eacut kd key v bo co t p f mx ba
noncomputable def oleaf (x:DenL [StT,AskT]):HO1:=fO Tryz.prog (envS [(52,bmayS),(17,mayDS),(53,namesS),(54,versS)]) (shOf []) Tryz.f16 [StT,AskT] [ShT] x
theorem eleaf (q:Int) (l:List EntD) (m:List MemoD) (a b c d e:Int) (kd:Int) (key:List UInt8) (v:Int) (bo:List UInt8) (co:Int) (t p f:List UInt8) (mx:Int) (ba:Bool):oleaf ((q,l,m,(a,b,c,d,e,()),()),(kd,key,v,bo,co,t,p,f,mx,ba,()),())=leafE (q,l,m,(a,b,c,d,e,()),()) (kd,key,v,bo,co,t,p,f,mx,ba,()):=by kernel_rfl
theorem leaf_c:PC 16 leafS:=(pureO (envS_ok (l:=[(52,bmayS),(17,mayDS),(53,namesS),(54,versS)]) ⟨bmay_c,am_c,names_c,vers_c,trivial⟩) gl_ne Tryz.func16 (by kernel_rfl) (by decide)).nice fun⟨⟨q,l,m,⟨a,b,c,d,e,()⟩,()⟩,⟨kd,key,v,bo,co,t,p,f,mx,ba,()⟩,()⟩ h=>(eleaf q l m a b c d e kd key v bo co t p f mx ba).trans (leafE_n h)
end Go.Proofs.YtldllfocpadkeaaGreatDoor
namespace Nice
open Go Go.Eng
theorem lcut0 (s:List UInt8) (n:Nat):(cut s (n:Int)).length≤n:=by unfold cut;rw[List.length_take];omega
theorem acut_askP (a:AskD) (h1:i64P a.2.2.1=true) (h2:i64P a.2.2.2.2.2.2.2.2.1=true):askP (acutN a)=true:=by
 have l1:(cut a.2.1 42).length≤42:=lcut0 a.2.1 42;have l2:(cut a.2.2.2.1 302).length≤302:=lcut0 a.2.2.2.1 302;have l3:(cut a.2.2.2.2.2.1 10).length≤10:=lcut0 a.2.2.2.2.2.1 10;have l4:(cut a.2.2.2.2.2.2.1 42).length≤42:=lcut0 a.2.2.2.2.2.2.1 42;have l5:(cut a.2.2.2.2.2.2.2.1 42).length≤42:=lcut0 a.2.2.2.2.2.2.2.1 42
 unfold askP qryP sh1 acutN;dsimp only;rw[decide_eq_true (by omega:(cut a.2.1 42).length≤1000),decide_eq_true (by omega:(cut a.2.2.2.1 302).length≤1000),decide_eq_true (by omega:(cut a.2.2.2.2.2.1 10).length≤1000),decide_eq_true (by omega:(cut a.2.2.2.2.2.2.1 42).length≤1000),decide_eq_true (by omega:(cut a.2.2.2.2.2.2.2.1 42).length≤1000),h1,h2];rfl
end Nice
namespace Go.Proofs.YtldllfocpadkeaaGreatDoor
open Go Go.Eng Nice
set_option maxRecDepth 1000000
theorem begun19_c:PC 12 trueS:=pure_true begun19_run
abbrev rowA (a:AskD):AO:=.row [sy (.int .i64 a.1),sy (.string (bs a.2.1)),sy (.int .i64 a.2.2.1),sy (.string (bs a.2.2.2.1)),sy (.int .i64 a.2.2.2.2.1),sy (.string (bs a.2.2.2.2.2.1)),sy (.string (bs a.2.2.2.2.2.2.1)),sy (.string (bs a.2.2.2.2.2.2.2.1)),sy (.int .i64 a.2.2.2.2.2.2.2.2.1),.bool a.2.2.2.2.2.2.2.2.2.1] 28 false
theorem i64_bd {n:Int} (h:inK .i64 n):i64P n=true:=by
 have:=inK_i64.1 h;unfold i64P;rw[Bool.and_eq_true,decide_eq_true_eq,decide_eq_true_eq];exact this
end Go.Proofs.YtldllfocpadkeaaGreatDoor
namespace Nice
open Go Go.Eng
abbrev WO:=Option (DenL [.slice ShT])
end Nice
namespace Go.Proofs.YtldllfocpadkeaaGreatDoor
open Go Go.Eng Nice
set_option maxRecDepth 1000000
abbrev shwk:List (Nat×List (Nat×Sh)):=[(2,[(2,(.obj [.sym,(.dat EntT),(.dat MemoT),.sym,.sym,.sym,.sym,.sym])),(3,(.obj [.sym,.sym,.sym,.sym,.sym,.sym,.sym,.sym,.sym,.sym])),(4,(.one .any)),(5,(.one (.vec ShT 35)))])]
noncomputable def hwk (N:Nat) (q:Int) (l:List EntD) (m:List MemoD) (b1 c1 d1 e1 f1:Int) (a:AskD) (o:List ShD):WO:=rH Tryz.prog (envS [(16,leafS)]) (shOf shwk) Tryz.f42 [.slice ShT] N 0 [(2,.pointer (some ⟨12,0,none⟩)),(3,.pointer (some ⟨13,0,none⟩)),(4,Value.slice none 0 0),(5,dt 14)] [.dat EntT l,.dat MemoT m,.row [sy (.int .i64 q),dt 10,dt 11,sy (.int .i64 b1),sy (.int .i64 c1),sy (.int .i64 d1),sy (.int .i64 e1),sy (.int .i64 f1)] 26 false,rowA a,.vec ShT o 35]
end Go.Proofs.YtldllfocpadkeaaGreatDoor
