/-
  Part of the proof: Shelf15 Lib15 CScan QA LA LB LD LU LV PFlo. No condition.
-/
import Derived.Shelf.LaysC
import Derived.Ground.GgwProg
import Derived.Shelf.Strconv.AtoiAll
import Derived.Test.YtldllfocpadkeaaGreatDoorProg
import Derived.Test.YtldllfocpadkeaaGreatDoorSym
import Derived.Test.YtldllfocpadkeaaGreatDoorG1
import Derived.Lib.AtoiErrMem
import Derived.Tactics2
import Derived.WalkKit
import Derived.Test.YtldllfocpadkeaaGreatDoorG2
namespace Go.Proofs.YtldllfocpadkeaaGreatDoor
open Go Go.Eng Nice Go.RowKit
set_option maxRecDepth 1000000
theorem glE {v:Value} (h:glR (er false) v):v=.nilIface∨∃te pe,v=.iface te pe:=by
 rcases h with⟨hp,_⟩|⟨b,_,he⟩|⟨k,m,he,_⟩
 ·cases hp
 ·unfold isE at he
  split at he
  ·exact .inl rfl
  ·exact .inr ⟨_,_,rfl⟩
  ·cases he
 ·cases he
theorem same_of {w w':World} (h:Below w.heap.size w w'):Same w w':=⟨h.size,h.os,h.output,fun b hb=>h.block b hb⟩
theorem bs_data (s:List UInt8):(bs s).data.toList=s:=by simp[bs]
theorem bs_len (s:List UInt8):(bs s).size=s.length:=by simp[bs,ByteArray.size]
theorem pc_mk {f:FuncId} {S:PSpec} (h:∀(fz:Nat→Option (Array Value)) (w:World) (args:Array Value) (x:DenL S.ts),GlW glC w→RdAll fz S.ts x args.toList→S.pre x=true→
  Calls Tryz.prog f args w fun e w'=>∃vs,e=.returned (resV vs)∧RdAll fz S.rs (S.g x) vs∧Same w w'):PC f S:=by
 intro fz w args x hfz hgl hr hp;refine(h fz w args x hgl hr hp).mono ?_;rintro e w' ⟨vs,rfl,hv,hs⟩;have hlt:∀b c,fz b=some c→b<w.heap.size:=fun b c hb=>by
  obtain⟨e,fr,h⟩:=hfz b c hb;exact(Array.getElem?_eq_some_iff.1 h).1
 exact⟨vs,fz,rfl,fun _ _ h=>h,hfz.keep fun b c hb=>hs.2.2.2 b (hlt b c hb),fun _ _ h=>.inl h,hv,hs⟩
theorem rd_cons {fz:Nat→Option (Array Value)} {t:Ty} {ts:List Ty} {x:DenL (t::ts)} {l:List Value} (ht:t.agg=false) (h:RdAll fz (t::ts) x l):∃v r,l=v::r∧RdC fz t x.1 [v]∧RdAll fz ts x.2 r:=by
 obtain⟨v,r,e,hv,hr⟩:=h;rcases hv with⟨h,_⟩|⟨_,hv⟩
 ·rw[ht] at h;cases h
 ·exact⟨v,r,e,hv,hr⟩
end Go.Proofs.YtldllfocpadkeaaGreatDoor
namespace Go.Proofs.YtldllfocpadkeaaGreatDoor
open Go Go.Eng Nice
set_option maxRecDepth 1000000
theorem cap_c:PC 163 capS:=(pureO (envS_ok (l:=[]) trivial) gl_ne Tryz.func163 (by kernel_rfl) (by decide)).nice fun⟨c,()⟩ _=>cap_n c
theorem slower_c:PC 128 lowerS:=(pureO (envS_ok (l:=[(163,capS)]) ⟨cap_c,trivial⟩) gl_ne Tryz.func128 (by kernel_rfl) (by decide)).nice fun⟨s,()⟩ h=>slower_n s h
theorem sval_c:PC 84 valueS:=(pureO (envS_ok (l:=[(128,lowerS)]) ⟨slower_c,trivial⟩) gl_ne Tryz.func84 (by kernel_rfl) (by decide)).nice fun⟨r,s,()⟩ h=>sval_n r s h
theorem cut_c:PC 28 cutS:=(pureO (envS_ok (l:=[]) trivial) gl_ne Tryz.func28 (by kernel_rfl) (by decide)).nice fun⟨s,n,()⟩ h=>cut_n s n (of_decide_eq_true h)
end Go.Proofs.YtldllfocpadkeaaGreatDoor
namespace Go.Proofs.YtldllfocpadkeaaGreatDoor
open Go Go.Eng Nice
set_option maxRecDepth 1000000
abbrev shkeyCh:List (Nat×List (Nat×Sh)):=[]
noncomputable def okeyCh (x:DenL [.byte]):Option (DenL [.bool]):=fO Tryz.prog (envS []) (shOf shkeyCh) Tryz.f188 [.byte] [.bool] x
theorem ekeyCh_g (N:Nat) (x0:UInt8):fON Tryz.prog (envS []) (shOf shkeyCh) Tryz.f188 [.byte] [.bool] N (x0,())=
 (bif decide ((↑x0.toNat:Int)≥(97:Int)) then
  (bif decide ((↑x0.toNat:Int)≤(122:Int)) then
   (some (true,PUnit.unit))
  else
   (bif decide ((↑x0.toNat:Int)≥(48:Int)) then
    (bif decide ((↑x0.toNat:Int)≤(57:Int)) then
     (some (true,PUnit.unit))
    else
     (bif (↑x0.toNat:Int)==(46:Int) then
      (some (true,PUnit.unit))
     else
      (bif (↑x0.toNat:Int)==(45:Int) then
       (some (true,PUnit.unit))
      else
       (bif (↑x0.toNat:Int)==(95:Int) then
        (some (true,PUnit.unit))
       else
        (bif (↑x0.toNat:Int)==(47:Int) then
         (some (true,PUnit.unit))
        else
         (some (false,PUnit.unit)))))))
   else
    (bif (↑x0.toNat:Int)==(46:Int) then
     (some (true,PUnit.unit))
    else
     (bif (↑x0.toNat:Int)==(45:Int) then
      (some (true,PUnit.unit))
     else
      (bif (↑x0.toNat:Int)==(95:Int) then
       (some (true,PUnit.unit))
      else
       (bif (↑x0.toNat:Int)==(47:Int) then
        (some (true,PUnit.unit))
       else
        (some (false,PUnit.unit))))))))
 else
  (bif decide ((↑x0.toNat:Int)≥(48:Int)) then
   (bif decide ((↑x0.toNat:Int)≤(57:Int)) then
    (some (true,PUnit.unit))
   else
    (bif (↑x0.toNat:Int)==(46:Int) then
     (some (true,PUnit.unit))
    else
     (bif (↑x0.toNat:Int)==(45:Int) then
      (some (true,PUnit.unit))
     else
      (bif (↑x0.toNat:Int)==(95:Int) then
       (some (true,PUnit.unit))
      else
       (bif (↑x0.toNat:Int)==(47:Int) then
        (some (true,PUnit.unit))
       else
        (some (false,PUnit.unit)))))))
  else
   (bif (↑x0.toNat:Int)==(46:Int) then
    (some (true,PUnit.unit))
   else
    (bif (↑x0.toNat:Int)==(45:Int) then
     (some (true,PUnit.unit))
    else
     (bif (↑x0.toNat:Int)==(95:Int) then
      (some (true,PUnit.unit))
     else
      (bif (↑x0.toNat:Int)==(47:Int) then
       (some (true,PUnit.unit))
      else
       (some (false,PUnit.unit)))))))):=by kernel_rfl
theorem ekeyCh (x0:UInt8):okeyCh (x0,())=
 (bif decide ((↑x0.toNat:Int)≥(97:Int)) then
  (bif decide ((↑x0.toNat:Int)≤(122:Int)) then
   (some (true,PUnit.unit))
  else
   (bif decide ((↑x0.toNat:Int)≥(48:Int)) then
    (bif decide ((↑x0.toNat:Int)≤(57:Int)) then
     (some (true,PUnit.unit))
    else
     (bif (↑x0.toNat:Int)==(46:Int) then
      (some (true,PUnit.unit))
     else
      (bif (↑x0.toNat:Int)==(45:Int) then
       (some (true,PUnit.unit))
      else
       (bif (↑x0.toNat:Int)==(95:Int) then
        (some (true,PUnit.unit))
       else
        (bif (↑x0.toNat:Int)==(47:Int) then
         (some (true,PUnit.unit))
        else
         (some (false,PUnit.unit)))))))
   else
    (bif (↑x0.toNat:Int)==(46:Int) then
     (some (true,PUnit.unit))
    else
     (bif (↑x0.toNat:Int)==(45:Int) then
      (some (true,PUnit.unit))
     else
      (bif (↑x0.toNat:Int)==(95:Int) then
       (some (true,PUnit.unit))
      else
       (bif (↑x0.toNat:Int)==(47:Int) then
        (some (true,PUnit.unit))
       else
        (some (false,PUnit.unit))))))))
 else
  (bif decide ((↑x0.toNat:Int)≥(48:Int)) then
   (bif decide ((↑x0.toNat:Int)≤(57:Int)) then
    (some (true,PUnit.unit))
   else
    (bif (↑x0.toNat:Int)==(46:Int) then
     (some (true,PUnit.unit))
    else
     (bif (↑x0.toNat:Int)==(45:Int) then
      (some (true,PUnit.unit))
     else
      (bif (↑x0.toNat:Int)==(95:Int) then
       (some (true,PUnit.unit))
      else
       (bif (↑x0.toNat:Int)==(47:Int) then
        (some (true,PUnit.unit))
       else
        (some (false,PUnit.unit)))))))
  else
   (bif (↑x0.toNat:Int)==(46:Int) then
    (some (true,PUnit.unit))
   else
    (bif (↑x0.toNat:Int)==(45:Int) then
     (some (true,PUnit.unit))
    else
     (bif (↑x0.toNat:Int)==(95:Int) then
      (some (true,PUnit.unit))
     else
      (bif (↑x0.toNat:Int)==(47:Int) then
       (some (true,PUnit.unit))
      else
       (some (false,PUnit.unit)))))))):=ekeyCh_g heads0 x0
abbrev shdKey:List (Nat×List (Nat×Sh)):=[(2,[(0,(.one .sym)),(2,(.one .sym)),(5,(.one .sym)),(6,(.one .sym))])]
noncomputable def hdKey_0 (n:Nat) (t0:List UInt8) (t2:Bool) (t5:Int) (t6:Int):Option (DenL [.bool]):=rH Tryz.prog (envS [(188,keyChS)]) (shOf shdKey) Tryz.f135 [.bool] n 0 [(0,sy (.string (bs t0))),(2,.bool t2),(5,sy (.int .i64 t5)),(6,sy (.int .i64 t6))] []
noncomputable def odKey (x:DenL [.str]):Option (DenL [.bool]):=fO Tryz.prog (envS [(188,keyChS)]) (shOf shdKey) Tryz.f135 [.str] [.bool] x
theorem edKey_g (N:Nat) (x0:List UInt8):fON Tryz.prog (envS [(188,keyChS)]) (shOf shdKey) Tryz.f135 [.str] [.bool] N (x0,())=
 (hdKey_0 N (x0) (false) ((↑x0.length:Int)) ((0:Int))):=by kernel_rfl
theorem edKey (x0:List UInt8):odKey (x0,())=
 (hdKey_0 heads0 (x0) (false) ((↑x0.length:Int)) ((0:Int))):=edKey_g heads0 x0
theorem edKey_0 (n:Nat) (t0:List UInt8) (t2:Bool) (t5:Int) (t6:Int):hdKey_0 (n+1) t0 t2 t5 t6=
 (bif decide (t6<t5) then
  (bif keyCh (UInt8.ofNat (↑(t0.getD t6.toNat 0).toNat:Int).toNat) then
   (gd [decide (inK IntKind.i64 (t6+(1:Int))),decide (inK IntKind.u8 (↑(t0.getD t6.toNat 0).toNat:Int)),decide ((0:Int)≤t6),decide (t6<(↑t0.length:Int))] (hdKey_0 n (t0) (t2) (t5) (t6+(1:Int))))
  else
   (gd [decide (inK IntKind.u8 (↑(t0.getD t6.toNat 0).toNat:Int)),decide ((0:Int)≤t6),decide (t6<(↑t0.length:Int))] (some (false,PUnit.unit))))
 else
  (bif decide ((↑t0.length:Int)≥(1:Int)) then
   (bif decide ((↑t0.length:Int)≤(40:Int)) then
    (some (true,PUnit.unit))
   else
    (some (false,PUnit.unit)))
  else
   (some (false,PUnit.unit)))):=by kernel_rfl
abbrev shrKey:List (Nat×List (Nat×Sh)):=[(2,[(0,(.one .sym)),(2,(.one .sym)),(3,(.one .sym))])]
noncomputable def hrKey_0 (n:Nat) (t0:List UInt8) (t2:Bool) (t3:Int):Option (DenL [.bool]):=rH Tryz.prog (envS []) (shOf shrKey) Tryz.f74 [.bool] n 0 [(0,sy (.string (bs t0))),(2,.bool t2),(3,sy (.int .i64 t3))] []
noncomputable def orKey (x:DenL [.str]):Option (DenL [.bool]):=fO Tryz.prog (envS []) (shOf shrKey) Tryz.f74 [.str] [.bool] x
theorem erKey_g (N:Nat) (x0:List UInt8):fON Tryz.prog (envS []) (shOf shrKey) Tryz.f74 [.str] [.bool] N (x0,())=
 (hrKey_0 N (x0) (false) ((0:Int))):=by kernel_rfl
theorem erKey (x0:List UInt8):orKey (x0,())=
 (hrKey_0 heads0 (x0) (false) ((0:Int))):=erKey_g heads0 x0
theorem erKey_0 (n:Nat) (t0:List UInt8) (t2:Bool) (t3:Int):hrKey_0 (n+1) t0 t2 t3=
 (bif decide (t3<(↑t0.length:Int)) then
  (gd [decide ((0:Int)≤t3),decide (t3<(↑t0.length:Int))] (bif decide ((↑(t0.getD t3.toNat 0).toNat:Int)<(97:Int)) then
   (bif decide ((↑(t0.getD t3.toNat 0).toNat:Int)<(48:Int)) then
    (bif (↑(t0.getD t3.toNat 0).toNat:Int) !=(46:Int) then
     (bif (↑(t0.getD t3.toNat 0).toNat:Int) !=(45:Int) then
      (bif (↑(t0.getD t3.toNat 0).toNat:Int) !=(95:Int) then
       (bif (↑(t0.getD t3.toNat 0).toNat:Int) !=(47:Int) then
        (some (false,PUnit.unit))
       else
        (gd [decide (inK IntKind.i64 (t3+(1:Int)))] (hrKey_0 n (t0) (t2) (t3+(1:Int)))))
      else
       (gd [decide (inK IntKind.i64 (t3+(1:Int)))] (hrKey_0 n (t0) (t2) (t3+(1:Int)))))
     else
      (gd [decide (inK IntKind.i64 (t3+(1:Int)))] (hrKey_0 n (t0) (t2) (t3+(1:Int)))))
    else
     (gd [decide (inK IntKind.i64 (t3+(1:Int)))] (hrKey_0 n (t0) (t2) (t3+(1:Int)))))
   else
    (bif decide ((↑(t0.getD t3.toNat 0).toNat:Int)>(57:Int)) then
     (bif (↑(t0.getD t3.toNat 0).toNat:Int) !=(46:Int) then
      (bif (↑(t0.getD t3.toNat 0).toNat:Int) !=(45:Int) then
       (bif (↑(t0.getD t3.toNat 0).toNat:Int) !=(95:Int) then
        (bif (↑(t0.getD t3.toNat 0).toNat:Int) !=(47:Int) then
         (some (false,PUnit.unit))
        else
         (gd [decide (inK IntKind.i64 (t3+(1:Int)))] (hrKey_0 n (t0) (t2) (t3+(1:Int)))))
       else
        (gd [decide (inK IntKind.i64 (t3+(1:Int)))] (hrKey_0 n (t0) (t2) (t3+(1:Int)))))
      else
       (gd [decide (inK IntKind.i64 (t3+(1:Int)))] (hrKey_0 n (t0) (t2) (t3+(1:Int)))))
     else
      (gd [decide (inK IntKind.i64 (t3+(1:Int)))] (hrKey_0 n (t0) (t2) (t3+(1:Int)))))
    else
     (gd [decide (inK IntKind.i64 (t3+(1:Int)))] (hrKey_0 n (t0) (t2) (t3+(1:Int))))))
  else
   (bif decide ((↑(t0.getD t3.toNat 0).toNat:Int)>(122:Int)) then
    (bif decide ((↑(t0.getD t3.toNat 0).toNat:Int)<(48:Int)) then
     (bif (↑(t0.getD t3.toNat 0).toNat:Int) !=(46:Int) then
      (bif (↑(t0.getD t3.toNat 0).toNat:Int) !=(45:Int) then
       (bif (↑(t0.getD t3.toNat 0).toNat:Int) !=(95:Int) then
        (bif (↑(t0.getD t3.toNat 0).toNat:Int) !=(47:Int) then
         (some (false,PUnit.unit))
        else
         (gd [decide (inK IntKind.i64 (t3+(1:Int)))] (hrKey_0 n (t0) (t2) (t3+(1:Int)))))
       else
        (gd [decide (inK IntKind.i64 (t3+(1:Int)))] (hrKey_0 n (t0) (t2) (t3+(1:Int)))))
      else
       (gd [decide (inK IntKind.i64 (t3+(1:Int)))] (hrKey_0 n (t0) (t2) (t3+(1:Int)))))
     else
      (gd [decide (inK IntKind.i64 (t3+(1:Int)))] (hrKey_0 n (t0) (t2) (t3+(1:Int)))))
    else
     (bif decide ((↑(t0.getD t3.toNat 0).toNat:Int)>(57:Int)) then
      (bif (↑(t0.getD t3.toNat 0).toNat:Int) !=(46:Int) then
       (bif (↑(t0.getD t3.toNat 0).toNat:Int) !=(45:Int) then
        (bif (↑(t0.getD t3.toNat 0).toNat:Int) !=(95:Int) then
         (bif (↑(t0.getD t3.toNat 0).toNat:Int) !=(47:Int) then
          (some (false,PUnit.unit))
         else
          (gd [decide (inK IntKind.i64 (t3+(1:Int)))] (hrKey_0 n (t0) (t2) (t3+(1:Int)))))
        else
         (gd [decide (inK IntKind.i64 (t3+(1:Int)))] (hrKey_0 n (t0) (t2) (t3+(1:Int)))))
       else
        (gd [decide (inK IntKind.i64 (t3+(1:Int)))] (hrKey_0 n (t0) (t2) (t3+(1:Int)))))
      else
       (gd [decide (inK IntKind.i64 (t3+(1:Int)))] (hrKey_0 n (t0) (t2) (t3+(1:Int)))))
     else
      (gd [decide (inK IntKind.i64 (t3+(1:Int)))] (hrKey_0 n (t0) (t2) (t3+(1:Int))))))
   else
    (gd [decide (inK IntKind.i64 (t3+(1:Int)))] (hrKey_0 n (t0) (t2) (t3+(1:Int)))))))
 else
  (bif decide ((↑t0.length:Int)≥(1:Int)) then
   (bif decide ((↑t0.length:Int)≤(40:Int)) then
    (some (true,PUnit.unit))
   else
    (some (false,PUnit.unit)))
  else
   (some (false,PUnit.unit)))):=by kernel_rfl
abbrev shanum:List (Nat×List (Nat×Sh)):=[]
noncomputable def oanum (x:DenL [.str,.int .i64,.int .i64,.int .i64]):Option (DenL [.int .i64,.bool]):=fO Tryz.prog (envS [(189,idxFS 190),(191,parseS)]) (shOf shanum) Tryz.f136 [.str,.int .i64,.int .i64,.int .i64] [.int .i64,.bool] x
theorem eanum_g (N:Nat) (x0:List UInt8) (x1 x2 x3:Int):fON Tryz.prog (envS [(189,idxFS 190),(191,parseS)]) (shOf shanum) Tryz.f136 [.str,.int .i64,.int .i64,.int .i64] [.int .i64,.bool] N (x0,x1,x2,x3,())=
 (bif decide (idxF x0≥(0:Int)) then
  (gd [bndS x0&&(decide ((10:Int)=(10:Int))&&decide ((64:Int)=(64:Int)))] (some ((intN x0).fst,false,PUnit.unit)))
 else
  (gd [bndS x0&&(decide ((10:Int)=(10:Int))&&decide ((64:Int)=(64:Int)))] (bif (intN x0).snd then
   (bif decide ((↑x0.length:Int)≤x1) then
    (bif decide ((intN x0).fst≥x2) then
     (bif decide ((intN x0).fst≤x3) then
      (some ((intN x0).fst,true,PUnit.unit))
     else
      (some ((intN x0).fst,false,PUnit.unit)))
    else
     (some ((intN x0).fst,false,PUnit.unit)))
   else
    (some ((intN x0).fst,false,PUnit.unit)))
  else
   (some ((intN x0).fst,false,PUnit.unit))))):=by kernel_rfl
theorem eanum (x0:List UInt8) (x1 x2 x3:Int):oanum (x0,x1,x2,x3,())=
 (bif decide (idxF x0≥(0:Int)) then
  (gd [bndS x0&&(decide ((10:Int)=(10:Int))&&decide ((64:Int)=(64:Int)))] (some ((intN x0).fst,false,PUnit.unit)))
 else
  (gd [bndS x0&&(decide ((10:Int)=(10:Int))&&decide ((64:Int)=(64:Int)))] (bif (intN x0).snd then
   (bif decide ((↑x0.length:Int)≤x1) then
    (bif decide ((intN x0).fst≥x2) then
     (bif decide ((intN x0).fst≤x3) then
      (some ((intN x0).fst,true,PUnit.unit))
     else
      (some ((intN x0).fst,false,PUnit.unit)))
    else
     (some ((intN x0).fst,false,PUnit.unit)))
   else
    (some ((intN x0).fst,false,PUnit.unit)))
  else
   (some ((intN x0).fst,false,PUnit.unit))))):=eanum_g heads0 x0 x1 x2 x3
abbrev shhp:List (Nat×List (Nat×Sh)):=[]
noncomputable def ohp (x:DenL [.str,.str]):Option (DenL [.bool]):=fO Tryz.prog (envS []) (shOf shhp) Tryz.f131 [.str,.str] [.bool] x
theorem ehp_g (N:Nat) (x0 x1:List UInt8):fON Tryz.prog (envS []) (shOf shhp) Tryz.f131 [.str,.str] [.bool] N (x0,x1,())=
 (bif decide ((↑x0.length:Int)≥(↑x1.length:Int)) then
  (bif List.take (↑x1.length:Int).toNat x0==x1 then
   (gd [decide ((↑x1.length:Int)≤(↑x0.length:Int))] (some (true,PUnit.unit)))
  else
   (gd [decide ((↑x1.length:Int)≤(↑x0.length:Int))] (some (false,PUnit.unit))))
 else
  (some (false,PUnit.unit))):=by kernel_rfl
theorem ehp (x0 x1:List UInt8):ohp (x0,x1,())=
 (bif decide ((↑x0.length:Int)≥(↑x1.length:Int)) then
  (bif List.take (↑x1.length:Int).toNat x0==x1 then
   (gd [decide ((↑x1.length:Int)≤(↑x0.length:Int))] (some (true,PUnit.unit)))
  else
   (gd [decide ((↑x1.length:Int)≤(↑x0.length:Int))] (some (false,PUnit.unit))))
 else
  (some (false,PUnit.unit))):=ehp_g heads0 x0 x1
abbrev shcp:List (Nat×List (Nat×Sh)):=[]
noncomputable def ocp (x:DenL [.str,.str]):Option (DenL [.str,.bool]):=fO Tryz.prog (envS [(131,hasPreS)]) (shOf shcp) Tryz.f194 [.str,.str] [.str,.bool] x
theorem ecp_g (N:Nat) (x0 x1:List UInt8):fON Tryz.prog (envS [(131,hasPreS)]) (shOf shcp) Tryz.f194 [.str,.str] [.str,.bool] N (x0,x1,())=
 (bif hasPre x0 x1 then
  (gd [decide ((↑x1.length:Int)≤(↑x0.length:Int))] (some (List.drop (↑x1.length:Int).toNat x0,true,PUnit.unit)))
 else
  (some (x0,false,PUnit.unit))):=by kernel_rfl
theorem ecp (x0 x1:List UInt8):ocp (x0,x1,())=
 (bif hasPre x0 x1 then
  (gd [decide ((↑x1.length:Int)≤(↑x0.length:Int))] (some (List.drop (↑x1.length:Int).toNat x0,true,PUnit.unit)))
 else
  (some (x0,false,PUnit.unit))):=ecp_g heads0 x0 x1
abbrev shrdigits:List (Nat×List (Nat×Sh)):=[(2,[(0,(.one .sym)),(2,(.one .sym)),(3,(.one .sym))])]
noncomputable def hrdigits_0 (n:Nat) (t0:Int) (t2:List UInt8) (t3:List UInt8):Option (DenL [.str]):=rH Tryz.prog (envS []) (shOf shrdigits) Tryz.f105 [.str] n 0 [(0,sy (.int .u64 t0)),(2,sy (.string (bs t2))),(3,sy (.string (bs t3)))] []
noncomputable def ordigits (x:DenL [.int .u64]):Option (DenL [.str]):=fO Tryz.prog (envS []) (shOf shrdigits) Tryz.f105 [.int .u64] [.str] x
theorem erdigits_g (N:Nat) (x0:Int):fON Tryz.prog (envS []) (shOf shrdigits) Tryz.f105 [.int .u64] [.str] N (x0,())=
 (hrdigits_0 N (x0) ([]) ([])):=by kernel_rfl
theorem erdigits (x0:Int):ordigits (x0,())=
 (hrdigits_0 heads0 (x0) ([]) ([])):=erdigits_g heads0 x0
theorem erdigits_0 (n:Nat) (t0:Int) (t2:List UInt8) (t3:List UInt8):hrdigits_0 (n+1) t0 t2 t3=
 (gd [decide ([UInt8.ofNat (IntKind.u8.wrap (IntKind.u64.wrap ((48:Int)+t0.tmod ((10:Int))))).toNat].length+t3.length≤1099511627776)] (bif IntKind.u64.wrap (t0.tdiv ((10:Int)))==(0:Int) then
  (some ([UInt8.ofNat (IntKind.u8.wrap (IntKind.u64.wrap ((48:Int)+t0.tmod ((10:Int))))).toNat]++t3,PUnit.unit))
 else
  (hrdigits_0 n (IntKind.u64.wrap (t0.tdiv ((10:Int)))) (t2) ([UInt8.ofNat (IntKind.u8.wrap (IntKind.u64.wrap ((48:Int)+t0.tmod ((10:Int))))).toNat]++t3)))):=by kernel_rfl
abbrev shrDigits:List (Nat×List (Nat×Sh)):=[]
noncomputable def orDigits (x:DenL [.int .i64]):Option (DenL [.str]):=fO Tryz.prog (envS [(105,digsS)]) (shOf shrDigits) Tryz.f61 [.int .i64] [.str] x
theorem erDigits_g (N:Nat) (x0:Int):fON Tryz.prog (envS [(105,digsS)]) (shOf shrDigits) Tryz.f61 [.int .i64] [.str] N (x0,())=
 (bif decide (x0<(0:Int)) then
  (gd [decide (1+(digs (IntKind.u64.wrap (IntKind.u64.wrap ((0:Int)-(x0+(1:Int)))+(1:Int)))).length≤1099511627776),decide ((0:Int)≤IntKind.u64.wrap (IntKind.u64.wrap ((0:Int)-(x0+(1:Int)))+(1:Int)))&&decide (IntKind.u64.wrap (IntKind.u64.wrap ((0:Int)-(x0+(1:Int)))+(1:Int))<(18446744073709551616:Int)),decide (inK IntKind.i64 ((0:Int)-(x0+(1:Int)))),decide (inK IntKind.i64 (x0+(1:Int)))] (some ([45]++digs (IntKind.u64.wrap (IntKind.u64.wrap ((0:Int)-(x0+(1:Int)))+(1:Int))),PUnit.unit)))
 else
  (gd [decide ((0:Int)≤IntKind.u64.wrap x0)&&decide (IntKind.u64.wrap x0<(18446744073709551616:Int))] (some (digs (IntKind.u64.wrap x0),PUnit.unit)))):=by kernel_rfl
theorem erDigits (x0:Int):orDigits (x0,())=
 (bif decide (x0<(0:Int)) then
  (gd [decide (1+(digs (IntKind.u64.wrap (IntKind.u64.wrap ((0:Int)-(x0+(1:Int)))+(1:Int)))).length≤1099511627776),decide ((0:Int)≤IntKind.u64.wrap (IntKind.u64.wrap ((0:Int)-(x0+(1:Int)))+(1:Int)))&&decide (IntKind.u64.wrap (IntKind.u64.wrap ((0:Int)-(x0+(1:Int)))+(1:Int))<(18446744073709551616:Int)),decide (inK IntKind.i64 ((0:Int)-(x0+(1:Int)))),decide (inK IntKind.i64 (x0+(1:Int)))] (some ([45]++digs (IntKind.u64.wrap (IntKind.u64.wrap ((0:Int)-(x0+(1:Int)))+(1:Int))),PUnit.unit)))
 else
  (gd [decide ((0:Int)≤IntKind.u64.wrap x0)&&decide (IntKind.u64.wrap x0<(18446744073709551616:Int))] (some (digs (IntKind.u64.wrap x0),PUnit.unit)))):=erDigits_g heads0 x0
end Go.Proofs.YtldllfocpadkeaaGreatDoor
namespace Go.Proofs.YtldllfocpadkeaaGreatDoor
open Go Go.Eng Nice
set_option maxRecDepth 100000
theorem keyCh_iff {c:UInt8}:keyCh c=true↔(97≤c.toNat∧c.toNat≤122∨48≤c.toNat∧c.toNat≤57∨c.toNat=46∨c.toNat=45∨c.toNat=95∨c.toNat=47):=by
 unfold keyCh;rw[decide_eq_true_iff]
theorem keyCh_not {c:UInt8}:keyCh c=false↔¬(97≤c.toNat∧c.toNat≤122∨48≤c.toNat∧c.toNat≤57∨c.toNat=46∨c.toNat=45∨c.toNat=95∨c.toNat=47):=by
 unfold keyCh;rw[decide_eq_false_iff_not]
theorem beT {α:Type} {n m:Int} {a b:α} (h:n=m):(bif n==m then a else b)=a:=by subst h;rw[show(n==n)=true from beq_self_eq_true n];rfl
theorem beF {α:Type} {n m:Int} {a b:α} (h:n≠m):(bif n==m then a else b)=b:=by rw[show(n==m)=false from beq_eq_false_iff_ne.2 h];rfl
theorem bnT {α:Type} {n m:Int} {a b:α} (h:n≠m):(bif n !=m then a else b)=a:=by rw[show(n !=m)=true from bne_iff_ne.2 h];rfl
theorem bnF {α:Type} {n m:Int} {a b:α} (h:n=m):(bif n !=m then a else b)=b:=by rw[show(n !=m)=false from by subst h;exact bne_self_eq_false n];rfl
theorem key_cases (c:UInt8):(c.toNat=45∧keyCh c=true)∨(c.toNat=46∧keyCh c=true)∨(c.toNat=47∧keyCh c=true)∨((48≤c.toNat∧c.toNat≤57)∧keyCh c=true)∨(c.toNat=95∧keyCh c=true)∨((97≤c.toNat∧c.toNat≤122)∧keyCh c=true)∨
  (c.toNat<45∧keyCh c=false)∨((57<c.toNat∧c.toNat<97∧c.toNat≠95)∧keyCh c=false)∨(122<c.toNat∧keyCh c=false):=by
 by_cases h:keyCh c=true
 ·have:=keyCh_iff.1 h;rw[h];simp only[and_true,reduceCtorEq,and_false,or_false];omega
 ·have h:keyCh c=false:=by simpa using h
  have:=keyCh_not.1 h;rw[h];simp only[and_true,reduceCtorEq,and_false,false_or];omega
theorem keyCh_n (c:UInt8):okeyCh (c,())=some (keyCh c,()):=by
 rw[ekeyCh];rcases key_cases c with⟨h,e⟩|⟨h,e⟩|⟨h,e⟩|⟨h,e⟩|⟨h,e⟩|⟨h,e⟩|⟨h,e⟩|⟨h,e⟩|⟨h,e⟩<;>rw[e]<;>simp(disch:=omega) only[cdT,cdF,beT,beF]
theorem dKey_l (t2:Bool) (s:List UInt8) (hl:s.length≤140737488355328):∀(rest done:List UInt8) (n:Nat),s=done++rest→rest.length<n→hdKey_0 n s t2 (s.length:Int) (done.length:Int)=some (rest.all keyCh&&(decide (1≤s.length)&&decide (s.length≤40)),())
 |[],done,n,hs,hn=>by
  obtain⟨m,rfl⟩:∃m,n=m+1:=⟨n-1,by omega⟩
  have:s.length=done.length:=by rw[hs];simp
  rw[edKey_0,cdF (by omega)];simp only[List.all_nil,Bool.true_and];by_cases h1:1≤s.length
  ·rw[cdT (by omega)];by_cases h2:s.length≤40
   ·rw[cdT (by omega)];simp[h1,h2]
   ·rw[cdF (by omega)];simp[h1,h2]
  ·rw[cdF (by omega)];simp[h1]
 |c::rest,done,n,hs,hn=>by
  obtain⟨m,rfl⟩:∃m,n=m+1:=⟨n-1,by omega⟩
  have hsl:s.length=done.length+(rest.length+1):=by rw[hs];simp
  simp only[List.length_cons] at hn;have ih:=dKey_l t2 s hl rest (done++[c]) m (by simp[hs]) (by omega);simp only[List.length_append,List.length_singleton,Int.natCast_add] at ih;have hg:s.getD done.length 0=c:=by rw[hs,getD_mid]
  have hc:=c.toNat_lt;rw[edKey_0];simp only[Int.toNat_natCast,hg,UInt8.ofNat_toNat];rw[cdT (by omega)];cases hb:keyCh c
  ·rw[cond_false];simp(disch:=omega) only[gdT,gd_nil,inK_u8];simp[hb]
  ·rw[cond_true];simp(disch:=omega) only[gdT,gd_nil,inK_u8,inK_i64];simp only[List.all_cons,hb,Bool.true_and];exact ih
theorem dKey_n (s:List UInt8) (h:bndS s=true):odKey (s,())=some (isKey s,()):=by
 have h:s.length≤140737488355328:=of_decide_eq_true h;rw[edKey];exact dKey_l false s h s [] heads0 rfl (by unfold heads0;omega)
theorem rKey_l (t2:Bool) (s:List UInt8) (hl:s.length≤140737488355328):∀(rest done:List UInt8) (n:Nat),s=done++rest→rest.length<n→hrKey_0 n s t2 (done.length:Int)=some (rest.all keyCh&&(decide (1≤s.length)&&decide (s.length≤40)),())
 |[],done,n,hs,hn=>by
  obtain⟨m,rfl⟩:∃m,n=m+1:=⟨n-1,by omega⟩
  have:s.length=done.length:=by rw[hs];simp
  rw[erKey_0,cdF (by omega)];simp only[List.all_nil,Bool.true_and];by_cases h1:1≤s.length
  ·rw[cdT (by omega)];by_cases h2:s.length≤40
   ·rw[cdT (by omega)];simp[h1,h2]
   ·rw[cdF (by omega)];simp[h1,h2]
  ·rw[cdF (by omega)];simp[h1]
 |c::rest,done,n,hs,hn=>by
  obtain⟨m,rfl⟩:∃m,n=m+1:=⟨n-1,by omega⟩
  have hsl:s.length=done.length+(rest.length+1):=by rw[hs];simp
  simp only[List.length_cons] at hn;have ih:=rKey_l t2 s hl rest (done++[c]) m (by simp[hs]) (by omega);simp only[List.length_append,List.length_singleton,Int.natCast_add] at ih;have hg:s.getD done.length 0=c:=by rw[hs,getD_mid]
  have hc:=c.toNat_lt;rw[erKey_0];simp only[Int.toNat_natCast,hg];rcases key_cases c with⟨h,e⟩|⟨h,e⟩|⟨h,e⟩|⟨h,e⟩|⟨h,e⟩|⟨h,e⟩|⟨h,e⟩|⟨h,e⟩|⟨h,e⟩<;>simp(disch:=omega) only[cdT,cdF,bnT,bnF,gdT,gd_nil,inK_i64]<;>simp only[List.all_cons,e,Bool.true_and,Bool.false_and]<;>first|rfl|exact ih
theorem rKey_n (s:List UInt8) (h:bndS s=true):orKey (s,())=some (isKey s,()):=by
 have h:s.length≤140737488355328:=of_decide_eq_true h;rw[erKey];exact rKey_l false s h s [] heads0 rfl (by unfold heads0;omega)
theorem anum_n (s:List UInt8) (most lo hi:Int) (h:bndS s=true):oanum (s,most,lo,hi,())=some ((numN s most lo hi).1,(numN s most lo hi).2,()):=by
 rw[eanum];have hp:(bndS s&&(decide True&&decide True))=true:=by rw[h];rfl
 simp only[gdB hp,gd_nil,idxF_ge,numN];cases allDig s
 ·simp only[Bool.not_false,cond_true,Bool.false_and]
 ·simp only[Bool.not_true,cond_false,Bool.true_and];cases(intN s).2
  ·simp only[cond_false,Bool.false_and]
  ·simp only[cond_true,Bool.true_and];by_cases h1:(s.length:Int)≤most
   ·rw[cdT h1,decide_eq_true h1,Bool.true_and];by_cases h2:(intN s).1≥lo
    ·rw[cdT h2,decide_eq_true h2,Bool.true_and];by_cases h3:(intN s).1≤hi
     ·rw[cdT h3,decide_eq_true h3]
     ·rw[cdF h3,decide_eq_false h3]
    ·rw[cdF h2,decide_eq_false h2,Bool.false_and]
   ·rw[cdF h1,decide_eq_false h1,Bool.false_and]
theorem hp_n (s p:List UInt8):ohp (s,p,())=some (hasPre s p,()):=by
 rw[ehp];unfold hasPre;by_cases h:p.length≤s.length
 ·rw[cdT (by omega),decide_eq_true h,Bool.true_and,gdT (by omega),gdT (by omega),gd_nil,gd_nil,Int.toNat_natCast];cases(s.take p.length==p)<;>rfl
 ·rw[cdF (by omega),decide_eq_false h,Bool.false_and]
theorem hasPre_len {s p:List UInt8} (h:hasPre s p=true):p.length≤s.length:=by
 unfold hasPre at h;rw[Bool.and_eq_true,decide_eq_true_eq] at h;exact h.1
theorem cp_n (s p:List UInt8):ocp (s,p,())=some ((cutPre s p).1,(cutPre s p).2,()):=by
 rw[ecp];unfold cutPre;cases hb:hasPre s p
 ·rfl
 ·have:=hasPre_len hb;rw[cond_true,cond_true,gdT (by omega),gd_nil,Int.toNat_natCast]
end Go.Proofs.YtldllfocpadkeaaGreatDoor
namespace Go.Proofs.YtldllfocpadkeaaGreatDoor
open Go Go.Eng Nice
set_option maxRecDepth 100000
theorem numN_pos {s:List UInt8} {most lo hi:Int} (h:(numN s most lo hi).2=true):0<s.length:=by
 cases s with
 |nil=>simp[numN,intN,Lib.parseIntB] at h
 |cons c r=>simp
theorem cutPre_bnd {q p:List UInt8} (h:bndS q=true):bndS (cutPre q p).1=true:=by
 have h:q.length≤140737488355328:=of_decide_eq_true h;refine decide_eq_true ?_;unfold cutPre;cases hasPre q p
 ·exact h
 ·simp only[cond_true,List.length_drop];omega
theorem digsF_len:∀(f n:Nat) (acc:List UInt8),(digsF f n acc).length≤f+acc.length
 |0,n,acc=>by simp[digsF]
 |f+1,n,acc=>by
  simp only[digsF]
  split
  ·simp;omega
  ·have:=digsF_len f (n/10) (UInt8.ofNat (48+n%10)::acc);simp only[List.length_cons] at this;omega
theorem u64w {n:Int} (h0:0≤n) (h1:n<18446744073709551616):IntKind.u64.wrap n=n:=by
 show n%18446744073709551616=n;exact Int.emod_eq_of_lt h0 h1
theorem rdigits_l (t2:List UInt8):∀(f n:Nat) (u:Nat) (acc:List UInt8),u<18446744073709551616→u<10^f→acc.length≤100-f→f≤20→0<f→f<n→hrdigits_0 n (u:Int) t2 acc=some (digsF f u acc,())
 |0,n,u,acc,_,_,_,_,h0,_=>absurd h0 (Nat.lt_irrefl 0)
 |f+1,n,u,acc,hu,h10,hl,hf,_,hn=>by
  obtain⟨m,rfl⟩:∃m,n=m+1:=⟨n-1,by omega⟩
  have e1:(u:Int).tmod 10=((u%10:Nat):Int):=rfl;have e2:(u:Int).tdiv 10=((u/10:Nat):Int):=rfl;have e3:UInt8.ofNat (IntKind.u8.wrap (IntKind.u64.wrap ((48:Int)+((u%10:Nat):Int)))).toNat=UInt8.ofNat (48+u%10):=by
   rw[u64w (by omega) (by omega),wrap_u8];congr 1;omega
  rw[erdigits_0];simp only[e1,e2,e3,List.length_singleton];rw[gdT (by omega),gd_nil,u64w (by omega) (by omega)];simp only[digsF];by_cases h:u/10=0
  ·rw[if_pos h,beT (by omega)];rfl
  ·rw[if_neg h,beF (by omega)];have hf0:0<f:=by
    rcases Nat.eq_zero_or_pos f with h'|h'
    ·subst h';simp at h10;omega
    ·exact h'
   exact rdigits_l t2 f m (u/10) (UInt8.ofNat (48+u%10)::acc) (by omega) (by rw[Nat.pow_succ] at h10;omega) (by simp;omega) (by omega) hf0 (by omega)
theorem rdigits_n (u:Int) (h:(decide (0≤u)&&decide (u<18446744073709551616))=true):ordigits (u,())=some (digs u,()):=by
 rw[Bool.and_eq_true,decide_eq_true_eq,decide_eq_true_eq] at h;obtain⟨n,rfl⟩:∃n:Nat,u=(n:Int):=⟨u.toNat,by omega⟩
 rw[erdigits];have:=rdigits_l [] 20 heads0 n [] (by omega) (by omega) (by simp) (by omega) (by omega) (by unfold heads0;omega);simpa[digs] using this
theorem digs_len (u:Int):(digs u).length≤20:=by
 have:=digsF_len 20 u.toNat [];simpa[digs] using this
theorem rDigits_n (n:Int) (h:(decide (-9223372036854775808≤n)&&decide (n≤9223372036854775807))=true):orDigits (n,())=some (digits n,()):=by
 rw[Bool.and_eq_true,decide_eq_true_eq,decide_eq_true_eq] at h;rw[erDigits];unfold digits;by_cases h0:n<0
 ·rw[cdT h0,if_pos h0];have i1:IntKind.u64.wrap ((0:Int)-(n+1))=0-(n+1):=u64w (by omega) (by omega);have e:IntKind.u64.wrap (IntKind.u64.wrap ((0:Int)-(n+1))+1)= -n:=by
   rw[i1,u64w (by omega) (by omega)];omega
  rw[e];have hl:=digs_len (-n);rw[gdT (by omega),gdB (by rw[decide_eq_true (by omega),decide_eq_true (by omega)];rfl),gdT (by rw[inK_i64];omega),gdT (by rw[inK_i64];omega),gd_nil];rfl
 ·rw[cdF h0,if_neg h0,u64w (by omega) (by omega),gdB (by rw[decide_eq_true (by omega),decide_eq_true (by omega)];rfl),gd_nil]
end Go.Proofs.YtldllfocpadkeaaGreatDoor
namespace Go.Proofs.YtldllfocpadkeaaGreatDoor
open Go Go.Eng Nice
set_option maxRecDepth 100000
theorem kT {α:Type} (a b:α):(bif true then a else b)=a:=Eq.trans (cond_true a b) rfl
theorem kF {α:Type} (a b:α):(bif false then a else b)=b:=Eq.trans (cond_false a b) rfl
theorem kG {α:Type} (r:Option α):gd [] r=r:=Eq.trans gd_nil rfl
theorem i20:((2:Int)==0)=false:=by decide
theorem i21:((2:Int)==1)=false:=by decide
theorem i32:((3:Int)==2)=false:=by decide
end Go.Proofs.YtldllfocpadkeaaGreatDoor
namespace Go.Proofs.YtldllfocpadkeaaGreatDoor
open Go Go.Eng Nice
set_option maxRecDepth 100000
theorem hsuf_n (s p:List UInt8) (h:bndS s=true):ohsuf (s,p,())=some (hasSuf s p,()):=by
 have h:s.length≤140737488355328:=of_decide_eq_true h;rw[ohsuf_g,ehsuf_g];unfold hasSuf;by_cases hl:p.length≤s.length
 ·have e:((s.length:Int)-(p.length:Int)).toNat=s.length-p.length:=by omega
  rw[cdT (by omega),decide_eq_true hl,Bool.true_and,e];cases s.drop (s.length-p.length)==p
  ·rw[kF];simp(disch:=omega) only[gdT,kG,inK_i64]
  ·rw[kT];simp(disch:=omega) only[gdT,kG,inK_i64]
 ·rw[cdF (by omega),decide_eq_false hl,Bool.false_and]
theorem csuf_n (s p:List UInt8) (h:bndS s=true):ocsuf (s,p,())=some ((cutSuf s p).1,(cutSuf s p).2,()):=by
 have hb:s.length≤140737488355328:=of_decide_eq_true h;rw[ocsuf_g,ecsuf_g];unfold cutSuf;cases hs:hasSuf s p
 ·simp only[kF]
  try rw[gdB h,kG]
 ·have hl:p.length≤s.length:=by
   unfold hasSuf at hs;rw[Bool.and_eq_true,decide_eq_true_eq] at hs;exact hs.1
  have e:((s.length:Int)-(p.length:Int)).toNat=s.length-p.length:=by omega
  simp only[kT,e];simp(disch:=first|omega|exact h) only[gdT,gdB,kG,inK_i64]
theorem sidx_l (x:List UInt8) (t4:Int) (len:Nat):∀(rest done:List (List UInt8)) (n:Nat),len=done.length+rest.length→len≤1000→rest.length<n→
  hsidx_0 n (done++rest) x t4 (len:Int) (done.length:Int)=some (idxG x rest (done.length:Int),())
 |[],done,n,he,hl,hn=>by
  obtain⟨m,rfl⟩:∃m,n=m+1:=⟨n-1,by omega⟩
  simp only[List.length_nil] at he;rw[esidx_0,cdF (by omega)];rfl
 |c::rest,done,n,he,hl,hn=>by
  obtain⟨m,rfl⟩:∃m,n=m+1:=⟨n-1,by omega⟩
  simp only[List.length_cons] at he hn;have ih:=sidx_l x t4 len rest (done++[c]) m (by simp;omega) hl (by omega);simp only[List.append_assoc,List.singleton_append,List.length_append,List.length_singleton,Int.natCast_add] at ih;rw[esidx_0,cdT (by omega)];simp only[Int.toNat_natCast,getD_mid,List.length_append,List.length_cons,idxG]
  cases x==c
  ·simp only[kF];simp(disch:=omega) only[gdT,kG,inK_i64];exact ih
  ·simp only[kT];simp(disch:=omega) only[gdT,kG,inK_i64]
theorem sidx_n (l:List (List UInt8)) (x:List UInt8) (h:decide (l.length≤1000)=true):osidx (l,x,())=some (idxS l x,()):=by
 have h:=of_decide_eq_true h;rw[osidx_g,esidx_g];exact sidx_l x 0 l.length l [] heads0 (by simp) h (by unfold heads0;omega)
theorem idxG_ge (x:List UInt8):∀(l:List (List UInt8)) (k:Int),0≤k→decide (idxG x l k≥0)=hasS l x
 |[],k,h=>by rfl
 |c::r,k,h=>by
  have ih:=idxG_ge x r (k+1) (by omega);unfold idxG hasS;simp only[List.any_cons];cases x==c
  ·simp only[kF,Bool.false_or];exact ih
  ·simp only[kT,Bool.true_or];exact decide_eq_true h
theorem shas_n (l:List (List UInt8)) (x:List UInt8) (h:decide (l.length≤1000)=true):oshas (l,x,())=some (hasS l x,()):=by
 rw[oshas_g,eshas_g];have e:decide (idxS l x≥0)=hasS l x:=idxG_ge x l 0 (Int.le_refl 0);rw[e];cases hasS l x<;>simp only[kT,kF]<;>rw[gdB h,kG]
theorem aconds_n (m p q:List UInt8) (hs:HeadL) (b:List UInt8) (h:condsP hs=true):oaconds ((m,p,q,hs,b,()),())=some ((condsN hs).1,(condsN hs).2.1,(condsN hs).2.2,()):=by
 unfold condsP at h;rw[Bool.and_eq_true,Bool.and_eq_true] at h;obtain⟨⟨h1,h2⟩,h3⟩:=h;rw[oaconds_g,eaconds_g];unfold condsN;cases(valueN hs inmW).2
 ·simp only[kF];rw[gdB h1,kG];cases(valueN hs imW).2
  ·simp only[kF];rw[gdB h2,kG]
  ·simp only[kT];have hb:bndS (cutPre (valueN hs imW).1 [34]).1=true:=by
    have h3:(valueN hs imW).1.length≤140737488355328:=of_decide_eq_true h3;unfold cutPre;cases hasPre (valueN hs imW).1 [34]
    ·exact decide_eq_true h3
    ·exact decide_eq_true (by show((valueN hs imW).1.drop _).length≤_;rw[List.length_drop];omega)
   rw[gdB hb,gdB h2,kG];unfold tagA;cases(gRead (cutSuf (cutPre (valueN hs imW).1 [34]).1 [34]).1).2<;>cases(cutPre (valueN hs imW).1 [34]).2<;>cases(cutSuf (cutPre (valueN hs imW).1 [34]).1 [34]).2<;>simp only[kT,kF,Bool.and_true,Bool.and_false,Bool.true_and,Bool.false_and]
 ·simp only[kT];rw[gdB h1,kG];cases(valueN hs imW).2
  ·simp only[kF];rw[gdB h2,kG];cases(valueN hs inmW).1==[42]<;>simp only[kT,kF]
  ·simp only[kT];rw[gdB h2,kG]
theorem akeyed_n (a:AskD) (m p q:List UInt8) (hs:HeadL) (b:List UInt8) (h:(condsP hs&&(bndS q&&bndS a.2.1))=true):
  oakeyed (a,(m,p,q,hs,b,()),())=some ((keyedG a m q hs b).1,(keyedG a m q hs b).2,()):=by
 rw[Bool.and_eq_true,Bool.and_eq_true] at h;obtain⟨hc,hq,hk⟩:=h;obtain⟨a0,k,a2,a3,a4,a5,a6,a7,a8,a9,⟨⟩⟩:=a;dsimp only at hk;rw[oakeyed_g,eakeyed_g];have hcb:=cutPre_bnd (p:=vPre) hq;unfold keyedG;dsimp only;rw[gdB hk,gdB hk,kG,kG];cases isKey k
 ·simp only[kF]
 ·simp only[kT];cases m==putW
  ·simp only[kF];simp only[gdB hcb,kG];unfold verN;generalize hn:numN (cutPre q vPre).fst ((cutPre q vPre).fst.length:Int) 1 1099511627776=nn;have hpos:nn.2=true→0<(cutPre q vPre).1.length:=fun h=>numN_pos (by rw[hn];exact h)
   generalize hcc:cutPre q vPre=c at *;have h48:∀{α:Type} (x y:α),(bif ((c.1.getD 0 0).toNat:Int) !=48 then x else y)=bif c.1.getD 0 0==48 then y else x:=by
    intro α x y;by_cases h:c.1.getD 0 0=48
    ·rw[h];rfl
    ·rw[bnT (by intro e;exact h (UInt8.toNat.inj (show _=(48:UInt8).toNat by have:(48:UInt8).toNat=48:=rfl;omega))),show(c.1.getD 0 0==48)=false from by simpa using h];rfl
   simp only[h48];cases hd:(m==delW)<;>cases hqq:(q==[])<;>simp only[kT,kF]<;>
   ·cases h1:nn.2<;>cases h2:c.2<;>try simp only[kT,kF,Bool.true_and,Bool.false_and]
    all_goals first
     |rfl
     |(have:=hpos h1
       cases h3:(c.1.getD 0 0==48)<;>simp(disch:=omega) only[kT,kF,gdT,kG,Bool.not_true,Bool.not_false]<;>rfl)
  ·simp only[kT];rw[gdB hc,gdB hc,kG,kG];cases(condsN hs).2.2<;>cases q==[]<;>simp only[kT,kF,Bool.true_and,Bool.false_and]<;>rfl
end Go.Proofs.YtldllfocpadkeaaGreatDoor
namespace Nice
open Go Go.Eng
def cntS (s:List (List UInt8)):Nat:=(hasS s wPre).toNat+((hasS s wAft).toNat+((hasS s wMax).toNat+(hasS s wVer).toNat))
theorem cntS_le (s:List (List UInt8)):cntS s≤4:=by
 unfold cntS;cases hasS s wPre<;>cases hasS s wAft<;>cases hasS s wMax<;>cases hasS s wVer<;>decide
theorem hasS_add (s:List (List UInt8)) (x y:List UInt8):hasS (s++[x]) y=(hasS s y||y==x):=by
 unfold hasS;simp
theorem cntS_add {s:List (List UInt8)} {x:List UInt8} (hx:x=wPre∨x=wAft∨x=wMax∨x=wVer) (h:hasS s x=false):cntS s+1≤cntS (s++[x]):=by
 have key:∀y,(hasS s y).toNat≤(hasS (s++[x]) y).toNat:=fun y=>by
  rw[hasS_add];cases hasS s y<;>cases y==x<;>decide
 have hn:(hasS (s++[x]) x).toNat=1:=by
  rw[hasS_add,beq_self_eq_true,Bool.or_true];rfl
 have h0:(hasS s x).toNat=0:=by rw[h];rfl
 have k1:=key wPre;have k2:=key wAft;have k3:=key wMax;have k4:=key wVer;unfold cntS;rcases hx with rfl|rfl|rfl|rfl<;>omega
theorem split_bnd (c:UInt8):∀(n:Nat) (s:List UInt8),s.length≤n→(Lib.split s [c]).length≤s.length+1∧∀p,p∈Lib.split s [c]→p.length≤s.length
 |n,s,h=>by
  cases hb:hasB c s
  ·rw[split1_no c s hb];refine⟨by simp,fun p hp=> ?_⟩;rw[List.mem_singleton] at hp;subst hp;exact Nat.le_refl _
  ·have hl:=upTo_lt c s hb;rw[split1_yes c s hb];cases n with
   |zero=>omega
   |succ n=>
    obtain⟨i1,i2⟩:=split_bnd c n (s.drop ((upTo c s).length+1)) (by rw[List.length_drop];omega);rw[List.length_drop] at i1 i2;refine⟨by simp only[List.length_cons];omega,fun p hp=> ?_⟩;rcases List.mem_cons.1 hp with rfl|hp
    ·omega
    ·have:=i2 p hp;omega
theorem cut_bnd (c:UInt8) (s:List UInt8):(Lib.cut s [c]).1.length≤s.length∧(Lib.cut s [c]).2.1.length≤s.length:=by
 have:=upTo_len c s;rw[cut1];cases hasB c s
 ·exact⟨Nat.le_refl _,Nat.zero_le _⟩
 ·exact⟨this,by show(s.drop _).length≤_;rw[List.length_drop];omega⟩
end Nice
namespace Go.Proofs.YtldllfocpadkeaaGreatDoor
open Go Go.Eng Nice
set_option maxRecDepth 100000
noncomputable def L0 (n:Nat) (a z:AskD) (t5:Bool) (seen parts:List (List UInt8)) (len k:Int):Option (DenL [AskT,.bool]):=
 hlisted_0 n a.1 a.2.1 a.2.2.1 a.2.2.2.1 a.2.2.2.2.1 a.2.2.2.2.2.1 a.2.2.2.2.2.2.1 a.2.2.2.2.2.2.2.1 a.2.2.2.2.2.2.2.2.1 a.2.2.2.2.2.2.2.2.2.1 z.1 z.2.1 z.2.2.1 z.2.2.2.1 z.2.2.2.2.1 z.2.2.2.2.2.1 z.2.2.2.2.2.2.1 z.2.2.2.2.2.2.2.1 z.2.2.2.2.2.2.2.2.1 z.2.2.2.2.2.2.2.2.2.1 t5 seen parts len k
theorem listed_l (z:AskD) (t5:Bool) (parts:List (List UInt8)) (hlen:parts.length≤4294967296) (hsh:∀p,p∈parts→shortS p=true∧bndS (cutE p).2.1=true) (rest:List (List UInt8)):
  ∀(done:List (List UInt8)) (n:Nat) (a:AskD) (seen:List (List UInt8)),parts=done++rest→seen.length≤cntS seen→rest.length<n→
  L0 n a z t5 seen parts (parts.length:Int) (done.length:Int)=some ((listedGo rest seen a).1,(listedGo rest seen a).2,()):=by
 induction rest with
 |nil=>
  intro done n a seen hs hc hn;obtain⟨m,rfl⟩:∃m,n=m+1:=⟨n-1,by omega⟩
  have hl:parts.length=done.length:=by rw[hs];simp
  unfold L0;rw[elisted_0,cdF (by omega)];rfl
 |cons p rest ihr=>
  intro done n a seen hs hc hn;obtain⟨m,rfl⟩:∃m,n=m+1:=⟨n-1,by omega⟩
  simp only[List.length_cons] at hn;have hl:parts.length=done.length+(rest.length+1):=by rw[hs];simp
  have ih:=fun a' s' hc'=>ihr (done++[p]) m a' s' (by rw[hs];simp) hc' (by omega)
  simp only[List.length_append,List.length_singleton,Int.natCast_add] at ih;have hg:parts.getD done.length Ty.str.dflt=p:=by rw[hs];exact getD_mid _ _ _ _
  obtain⟨hp,hv⟩:=hsh p (by rw[hs];simp);have h4:=cntS_le seen;obtain⟨a0,a1,a2,a3,a4,a5,a6,a7,a8,a9,⟨⟩⟩:=a;unfold L0;rw[elisted_0,cdT (by omega)];have hq:(shortS p&&[61]==[61])=true:=by rw[hp];rfl
  simp only[Int.toNat_natCast,hg];simp(disch:=omega) only[gdT,kG];rw[gdB hq,gdB hq,kG,kG];unfold listedGo;have hd1:decide (seen.length≤1000)=true:=by rw[decide_eq_true_iff];omega
  have hd2:decide ((2*(seen.length+[(cutE p).1].length)+400)*16≤281474976710656)=true:=by
   rw[decide_eq_true_iff];simp only[List.length_singleton];omega
  try simp only[gdB hd1,kG]
  try simp only[gdB hd2,kG]
  try simp only[gdB hd1,kG]
  clear hd2;generalize cutE p=c at hv⊢
  try simp only[gdB hv,kG]
  have hi:decide (inK .i64 ((done.length:Int)+1))=true:=by
   rw[decide_eq_true_iff,inK_i64];omega
  try simp only[gdB hi,gdB hv,kG]
  have nx:∀{x:List UInt8},c.1=x→(x=wPre∨x=wAft∨x=wMax∨x=wVer)→hasS seen c.1=false→(seen++[c.1]).length≤cntS (seen++[c.1]):=by
   intro x hx hm hh;have:=cntS_add (s:=seen) (x:=c.1) (by rw[hx];exact hm) hh;simp only[List.length_append,List.length_singleton];omega
  cases c.2.2
  ·simp only[kF]
  ·simp only[kT];cases hh:hasS seen c.1
   ·simp only[kF];unfold lset keyB;cases h1:c.1==wPre
    ·simp only[kF];cases h2:c.1==wAft
     ·simp only[kF];cases h3:c.1==wMax
      ·simp only[kF];cases h4:c.1==wVer
       ·cases c.2.1==[]<;>cases isKey c.2.1<;>simp only[kT,kF]
       ·have e:=nx (beq_iff_eq.1 h4) (.inr (.inr (.inr rfl))) hh;cases h5:c.2.1==[49]<;>cases c.2.1==[]<;>cases isKey c.2.1<;>simp only[kT,kF]
        all_goals first
         |rfl
         |exact ih (setKind (a0,a1,a2,a3,a4,a5,a6,a7,a8,a9,()) 5) _ e
      ·have e:=nx (beq_iff_eq.1 h3) (.inr (.inr (.inl rfl))) hh;simp only[kT];cases h5:(numN c.2.1 2 1 20).2<;>cases c.2.1==[]<;>cases isKey c.2.1<;>simp only[kT,kF]
       all_goals first
        |rfl
        |exact ih (setMax (a0,a1,a2,a3,a4,a5,a6,a7,a8,a9,()) (numN c.2.1 2 1 20).1) _ e
     ·have e:=nx (beq_iff_eq.1 h2) (.inr (.inl rfl)) hh;simp only[kT];cases c.2.1==[]<;>cases isKey c.2.1<;>simp only[kT,kF,Bool.true_or,Bool.false_or]
      all_goals first
       |rfl
       |exact ih (setAft (a0,a1,a2,a3,a4,a5,a6,a7,a8,a9,()) c.2.1) _ e
    ·have e:=nx (beq_iff_eq.1 h1) (.inl rfl) hh;simp only[kT];cases c.2.1==[]<;>cases isKey c.2.1<;>simp only[kT,kF,Bool.true_or,Bool.false_or]
     all_goals first
      |rfl
      |exact ih (setPre (a0,a1,a2,a3,a4,a5,a6,a7,a8,a9,()) c.2.1) _ e
   ·simp only[kT]
theorem listed_n (a:AskD) (q:List UInt8) (h:shortS q=true):olisted (a,q,())=some ((listedN a q).1,(listedN a q).2,()):=by
 have hq:q.length<4294967281:=of_decide_eq_true h;rw[olisted_g,elisted_g];unfold listedN;cases q==[]
 ·simp only[kF];have hq2:(shortS q&&[38]==[38])=true:=by rw[h];rfl
  rw[gdB hq2,kG];obtain⟨b1,b2⟩:=split_bnd 38 q.length q (Nat.le_refl _);have:=listed_l zAsk false (splitN q) (by show(Lib.split q [38]).length≤_;omega) (fun p hp=>by
   have:=b2 p hp;have:=(cut_bnd 61 p).2;exact⟨decide_eq_true (by omega),decide_eq_true (by show(Lib.cut p [61]).2.1.length≤_;omega)⟩) (splitN q) [] heads0 (setMax (setKind a 4) 20) [] rfl (Nat.zero_le _) (by show(Lib.split q [38]).length<_;unfold heads0;omega)
  exact this
 ·rfl
end Go.Proofs.YtldllfocpadkeaaGreatDoor
namespace Nice
open Go Go.Eng
abbrev fN (n:Int):Nat:=FloatKind.f64.nearest n
theorem dbl_w:Ieee.double.signWeight=2^63:=rfl
theorem dbl_b:Ieee.double.binade=2^52:=rfl
theorem dbl_i:Ieee.double.infRung=2047*2^52:=by decide
theorem dbl_l:Ieee.double.leastPlace= -1074:=by decide
theorem word_true (x:Nat):Ieee.double.word true x=2^63+x:=by
 unfold Ieee.Format.word;rw[if_pos rfl,dbl_w]
theorem cut_sg (n d:Nat):Ieee.Toward.even.cut true n d=Ieee.Toward.even.cut false n d:=rfl
theorem nearest_sg (f:Ieee.Format) (m:Nat) (p:Int):f.nearest true m p=f.word true (f.nearest false m p):=by
 unfold Ieee.Format.nearest;by_cases h:m=0
 ·rw[if_pos h,if_pos h,word_false]
 ·rw[if_neg h,if_neg h];simp only[word_false];rw[cut_sg]
theorem nearest_neg (m:Nat) (p:Int):Ieee.double.nearest true m p=2^63+Ieee.double.nearest false m p:=by
 rw[nearest_sg,word_true]
theorem read_neg {r m:Nat} {i:Int} (h:r<2^63) (hd:Ieee.double.read r=.number false m i):Ieee.double.read (2^63+r)=.number true m i:=by
 unfold Ieee.Format.read at hd⊢;simp only[dbl_w,dbl_b,dbl_i,dbl_l] at hd⊢;have q1:(2^63+r)/2^63%2=1:=by omega
 have q2:(2^63+r)%2^63=r:=by omega
 have q3:r/2^63%2=0:=by omega
 have q4:r%2^63=r:=by omega
 rw[q3,q4] at hd;rw[q1,q2];by_cases c1:r<2^52
 ·rw[if_pos c1] at hd⊢;injection hd with _ e2 e3;rw[e2,e3];rfl
 ·rw[if_neg c1] at hd⊢;by_cases c2:r<2047*2^52
  ·rw[if_pos c2] at hd⊢;injection hd with _ e2 e3;rw[e2,e3];rfl
  ·rw[if_neg c2] at hd;by_cases c3:r=2047*2^52
   ·rw[if_pos c3] at hd;cases hd
   ·rw[if_neg c3] at hd;cases hd
structure Rep (n:Int) (x:Nat) (k:Nat):Prop where
 d:FloatKind.f64.decode x=.number (decide (n<0)) (n.natAbs*2^k) (-(k:Int))
theorem fN_neg {n:Nat} (h1:1≤n):fN (-(n:Int))=2^63+fN (n:Int):=by
 have e1:decide ((-(n:Int))<0)=true:=by rw[decide_eq_true_eq];omega
 have e2:decide (((n:Int))<0)=false:=by rw[decide_eq_false_iff_not];omega
 show Ieee.double.nearest (decide ((-(n:Int))<0)) (-(n:Int)).natAbs 0=2^63+Ieee.double.nearest (decide (((n:Int))<0)) (n:Int).natAbs 0;rw[e1,e2,nearest_neg,Int.natAbs_neg]
theorem fN_pos_lt {n:Nat} (h1:1≤n) (h2:n<2^53):fN (n:Int)<2^63:=by
 have hL:=log_le h1 h2;have hhi:=(Nat.log2_lt (by omega:n≠0)).1 (Nat.lt_succ_self n.log2);show FloatKind.f64.nearest (n:Int)<_;rw[nearest_pos h1 h2];have hk:n*2^(52-n.log2)<2^53:=by
  calc n*2^(52-n.log2)<2^(n.log2+1)*2^(52-n.log2):=Nat.mul_lt_mul_of_pos_right hhi (Nat.two_pow_pos _)
   _=2^53:=by rw[←Nat.pow_add];congr 1;omega
 omega
theorem rep {n:Int} (h:n.natAbs<2^53):∃k,Rep n (fN n) k:=by
 rcases Int.lt_trichotomy n 0 with hn|hn|hn
 ·obtain⟨m,rfl⟩:∃m:Nat,n= -(m:Int):=⟨n.natAbs,by omega⟩
  rw[Int.natAbs_neg,Int.natAbs_natCast] at h;have h1:1≤m:=by omega
  have hL:=log_le h1 h;refine⟨52-m.log2,⟨?_⟩⟩;rw[fN_neg h1,Int.natAbs_neg,Int.natAbs_natCast,decide_eq_true (show(-(m:Int))<0 by omega)];refine read_neg (fN_pos_lt h1 h) ?_;refine Eq.trans (decode_nearest h1 h) ?_;congr 1;omega
 ·subst hn;have e:FloatKind.f64.decode (fN 0)=.number false 0 (-1074):=by decide
  obtain⟨K,hK⟩:∃K:Nat,K=1074:=⟨_,rfl⟩
  refine⟨K,⟨?_⟩⟩;rw[e,Int.natAbs_zero,Nat.zero_mul,decide_eq_false (show ¬((0:Int)<0) by omega),hK];rfl
 ·obtain⟨m,rfl⟩:∃m:Nat,n=(m:Int):=⟨n.natAbs,by omega⟩
  rw[Int.natAbs_natCast] at h;have h1:1≤m:=by omega
  have hL:=log_le h1 h;refine⟨52-m.log2,⟨?_⟩⟩;rw[Int.natAbs_natCast,decide_eq_false (show ¬((m:Int))<0 by omega)];refine Eq.trans (decode_nearest h1 h) ?_;congr 1;omega
theorem log2_mul {m s:Nat} (h:1≤m):(m*2^s).log2=m.log2+s:=by
 have hlo:=Nat.log2_self_le (by omega:m≠0);have hhi:=(Nat.log2_lt (by omega:m≠0)).1 (Nat.lt_succ_self m.log2);have hp:0<m*2^s:=Nat.mul_pos h (Nat.two_pow_pos s);apply Nat.le_antisymm
 ·have:(m*2^s).log2<m.log2+s+1:=(Nat.log2_lt (by omega)).2 (by
   calc m*2^s<2^(m.log2+1)*2^s:=Nat.mul_lt_mul_of_pos_right hhi (Nat.two_pow_pos _)
    _=2^(m.log2+s+1):=by rw[←Nat.pow_add];congr 1;omega)
  omega
 ·exact(Nat.le_log2 (by omega)).2 (by
   calc 2^(m.log2+s)=2^m.log2*2^s:=Nat.pow_add ..
    _≤m*2^s:=Nat.mul_le_mul_right _ hlo)
theorem cut_even {n d:Nat} (q:Nat) (h:n=q*2^d) (hd:d≤n.log2+2) (neg:Bool):Ieee.Toward.even.cut neg n d=q:=by
 unfold Ieee.Toward.cut;have e:(1<<<min d (n.log2+2):Nat)=2^d:=by rw[Nat.min_eq_left hd,Nat.shiftLeft_eq,Nat.one_mul]
 have hp:=Nat.two_pow_pos d;have e1:n/2^d=q:=by rw[h];exact Nat.mul_div_cancel _ hp
 have e2:n%2^d=0:=by rw[h];exact Nat.mul_mod_left ..
 simp only[e,e1,e2,Nat.mul_zero];have c1:decide (2^d<0)=false:=rfl;have c2:((2^d:Nat)==0)=false:=beq_eq_false_iff_ne.2 (by omega);rw[c1,c2];rfl
theorem near_scale {m s:Nat} (hm:m<2^53) (neg:Bool):Ieee.double.nearest neg (m*2^s) (-(s:Int))=Ieee.double.nearest neg m 0:=by
 rcases Nat.eq_zero_or_pos m with rfl|h1
 ·rw[Nat.zero_mul];unfold Ieee.Format.nearest;rw[if_pos rfl,if_pos rfl]
 have hL:=log_le h1 hm;have hp:m*2^s≠0:=Nat.ne_of_gt (Nat.mul_pos h1 (Nat.two_pow_pos s));have hl:=log2_mul (s:=s) h1;unfold Ieee.Format.nearest;rw[if_neg hp,if_neg (by omega),hl];have hf:(Ieee.double.fractionBits:Int)=52:=rfl;have a1:max (-(s:Int)+((m.log2+s:Nat):Int)-(Ieee.double.fractionBits:Int)) Ieee.double.leastPlace=(m.log2:Int)-52:=by rw[dbl_l,hf];omega
 have a2:max ((0:Int)+(m.log2:Int)-(Ieee.double.fractionBits:Int)) Ieee.double.leastPlace=(m.log2:Int)-52:=by rw[dbl_l,hf];omega
 simp only[a1,a2];have k2:Ieee.Toward.even.cut neg (m<<<((0:Int)-((m.log2:Int)-52)).toNat) (((m.log2:Int)-52)-0).toNat=m*2^(52-m.log2):=by
  have e1:((0:Int)-((m.log2:Int)-52)).toNat=52-m.log2:=by omega
  have e2:(((m.log2:Int)-52)-0).toNat=0:=by omega
  rw[e1,e2,Nat.shiftLeft_eq];exact cut_even _ (by rw[Nat.pow_zero,Nat.mul_one]) (by omega) neg
 have k1:Ieee.Toward.even.cut neg ((m*2^s)<<<(-(s:Int)-((m.log2:Int)-52)).toNat) (((m.log2:Int)-52)- -(s:Int)).toNat=m*2^(52-m.log2):=by
  by_cases hs:s≤52-m.log2
  ·have e1:(-(s:Int)-((m.log2:Int)-52)).toNat=52-m.log2-s:=by omega
   have e2:(((m.log2:Int)-52)- -(s:Int)).toNat=0:=by omega
   rw[e1,e2,Nat.shiftLeft_eq];refine cut_even _ ?_ (by omega) neg;rw[Nat.pow_zero,Nat.mul_one,Nat.mul_assoc,←Nat.pow_add];congr 2;omega
  ·have e1:(-(s:Int)-((m.log2:Int)-52)).toNat=0:=by omega
   have e2:(((m.log2:Int)-52)- -(s:Int)).toNat=s-(52-m.log2):=by omega
   rw[e1,e2,Nat.shiftLeft_eq,Nat.pow_zero,Nat.mul_one];refine cut_even _ ?_ (by rw[hl];omega) neg;rw[Nat.mul_assoc,←Nat.pow_add];congr 2;omega
 rw[k1,k2]
theorem write_scale {n:Int} {s:Nat} (h:n.natAbs<2^53):FloatKind.f64.format.write (.number (decide (n<0)) (n.natAbs*2^s) (-(s:Int)))=fN n:=near_scale h _
theorem signed_up {n:Int} {k u:Nat}:Ieee.signed (decide (n<0)) (n.natAbs*2^k) u=n*2^(k+u):=by
 unfold Ieee.signed;have e:((n.natAbs*2^k)<<<u:Nat)=n.natAbs*2^(k+u):=by rw[Nat.shiftLeft_eq,Nat.mul_assoc,←Nat.pow_add]
 have ec:((n.natAbs*2^(k+u):Nat):Int)=(n.natAbs:Int)*2^(k+u):=by rw[Int.natCast_mul,Int.natCast_pow];rfl
 rw[e,ec];generalize (2:Int)^(k+u)=p;by_cases h:n<0
 ·rw[if_pos (decide_eq_true h),←Int.neg_mul,show -(n.natAbs:Int)=n by omega]
 ·rw[if_neg (by rw[decide_eq_false h];decide),show(n.natAbs:Int)=n by omega]
theorem sum_rep {a b:Int} {x y k l:Nat} (h1:Rep a x k) (h2:Rep b y l) (h:(a+b).natAbs<2^53) (hz:¬(a<0∧b<0∧a+b=0)):(((FloatKind.f64.format.read x).sum (FloatKind.f64.format.read y)).map FloatKind.f64.format.write)=some (fN (a+b)):=by
 have d1:FloatKind.f64.format.read x=_:=h1.d;have d2:FloatKind.f64.format.read y=_:=h2.d;rw[d1,d2];unfold Ieee.Datum.sum;simp only[Option.map_some];have hb:min (-(k:Int)) (-(l:Int))= -((max k l:Nat):Int):=by omega
 have u1:(-(k:Int)- -((max k l:Nat):Int)).toNat=max k l-k:=by omega
 have u2:(-(l:Int)- -((max k l:Nat):Int)).toNat=max k l-l:=by omega
 rw[hb,u1,u2,signed_up,signed_up,show k+(max k l-k)=max k l by omega,show l+(max k l-l)=max k l by omega,←Int.add_mul];have hp:(0:Int)<2^max k l:=Int.pow_pos (by decide);have hn:((a+b)*2^max k l).natAbs=(a+b).natAbs*2^max k l:=by
  rw[Int.natAbs_mul,Int.natAbs_pow];rfl
 have hs:(if(a+b)*2^max k l=0 then(decide (a<0)&&decide (b<0)) else decide ((a+b)*2^max k l<0))=decide (a+b<0):=by
  by_cases h0:a+b=0
  ·rw[h0,Int.zero_mul,if_pos rfl];by_cases ha:a<0
   ·by_cases hb:b<0
    ·exact absurd ⟨ha,hb,h0⟩ hz
    ·rw[decide_eq_false hb,Bool.and_false];rfl
   ·rw[decide_eq_false ha];rfl
  ·have hne:(a+b)*2^max k l≠0:=Int.mul_ne_zero h0 (by omega);rw[if_neg hne,decide_eq_decide];constructor
   ·intro h;by_cases hc:a+b<0
    ·exact hc
    ·have:=Int.mul_nonneg (show 0≤a+b by omega) (Int.le_of_lt hp);omega
   ·intro h;exact Int.mul_neg_of_neg_of_pos h hp
 rw[hn,hs,write_scale h]
theorem fadd {a b:Int} (ha:0≤a) (hb:0≤b) (h:a+b<9007199254740992):fAr .add (fN a) (fN b)=some (fN (a+b)):=by
 obtain⟨k,h1⟩:=rep (n:=a) (by omega);obtain⟨l,h2⟩:=rep (n:=b) (by omega);exact sum_rep h1 h2 (by omega) (by omega)
theorem fsub {a b:Int} (ha:0≤a) (hb:0≤b) (h1:a<9007199254740992) (h2:b<9007199254740992):fAr .sub (fN a) (fN b)=some (fN (a-b)):=by
 obtain⟨k,r1⟩:=rep (n:=a) (by omega);obtain⟨l,r2⟩:=rep (n:=b) (by omega);rcases Int.lt_or_eq_of_le hb with hb|hb
 ·obtain⟨l',r3⟩:=rep (n:= -b) (by omega);have e:(FloatKind.f64.format.read (fN b)).opposite=.number (decide (-b<0)) ((-b).natAbs*2^l) (-(l:Int)):=by
   have d:FloatKind.f64.format.read (fN b)=_:=r2.d;rw[d,decide_eq_false (show ¬b<0 by omega),decide_eq_true (show -b<0 by omega),Int.natAbs_neg];rfl
  have d1:FloatKind.f64.format.read (fN a)=_:=r1.d;show((FloatKind.f64.format.read (fN a)).sum (FloatKind.f64.format.read (fN b)).opposite).map FloatKind.f64.format.write=_;rw[e,d1];unfold Ieee.Datum.sum;simp only[Option.map_some];have hb2:min (-(k:Int)) (-(l:Int))= -((max k l:Nat):Int):=by omega
  have u1:(-(k:Int)- -((max k l:Nat):Int)).toNat=max k l-k:=by omega
  have u2:(-(l:Int)- -((max k l:Nat):Int)).toNat=max k l-l:=by omega
  rw[hb2,u1,u2,signed_up,signed_up,show k+(max k l-k)=max k l by omega,show l+(max k l-l)=max k l by omega,←Int.add_mul,←Int.sub_eq_add_neg];have hp:(0:Int)<2^max k l:=Int.pow_pos (by decide);have hn:((a-b)*2^max k l).natAbs=(a-b).natAbs*2^max k l:=by
   rw[Int.natAbs_mul,Int.natAbs_pow];rfl
  have hs:(if(a-b)*2^max k l=0 then(decide (a<0)&&decide (-b<0)) else decide ((a-b)*2^max k l<0))=decide (a-b<0):=by
   by_cases h0:a-b=0
   ·rw[h0,Int.zero_mul,if_pos rfl,decide_eq_false (show ¬a<0 by omega)];rfl
   ·have hne:(a-b)*2^max k l≠0:=Int.mul_ne_zero h0 (by omega);rw[if_neg hne,decide_eq_decide];constructor
    ·intro h;by_cases hc:a-b<0
     ·exact hc
     ·have:=Int.mul_nonneg (show 0≤a-b by omega) (Int.le_of_lt hp);omega
    ·intro h;exact Int.mul_neg_of_neg_of_pos h hp
  rw[hn,hs,write_scale (by omega)]
 ·subst hb;have e:(FloatKind.f64.format.read (fN 0)).opposite=.number true 0 (-1074):=by decide
  have d1:FloatKind.f64.format.read (fN a)=_:=r1.d;show((FloatKind.f64.format.read (fN a)).sum (FloatKind.f64.format.read (fN 0)).opposite).map FloatKind.f64.format.write=_;rw[e,d1];unfold Ieee.Datum.sum;simp only[Option.map_some];have hb2:min (-(k:Int)) (-1074:Int)= -((max k 1074:Nat):Int):=by omega
  have u1:(-(k:Int)- -((max k 1074:Nat):Int)).toNat=max k 1074-k:=by omega
  have z0:∀u,Ieee.signed true 0 u=0:=fun u=>by unfold Ieee.signed;simp
  rw[hb2,u1,signed_up,z0,Int.add_zero,show k+(max k 1074-k)=max k 1074 by omega,Int.sub_zero];have hp:(0:Int)<2^max k 1074:=Int.pow_pos (by decide);have hn:(a*2^max k 1074).natAbs=a.natAbs*2^max k 1074:=by
   rw[Int.natAbs_mul,Int.natAbs_pow];rfl
  have hnn:=Int.mul_nonneg ha (Int.le_of_lt hp);have hs:(if a*2^max k 1074=0 then(decide (a<0)&&true) else decide (a*2^max k 1074<0))=decide (a<0):=by
   rw[decide_eq_false (show ¬a<0 by omega),decide_eq_false (show ¬a*2^max k 1074<0 by omega)]
   split<;>rfl
  rw[hn,hs,write_scale (by omega)]
theorem fmul {a b:Int} (ha:0≤a) (hb:0≤b) (h1:a<9007199254740992) (h2:b<9007199254740992) (h:a*b<9007199254740992):fAr .mul (fN a) (fN b)=some (fN (a*b)):=by
 obtain⟨k,r1⟩:=rep (n:=a) (by omega);obtain⟨l,r2⟩:=rep (n:=b) (by omega);have d1:FloatKind.f64.format.read (fN a)=_:=r1.d;have d2:FloatKind.f64.format.read (fN b)=_:=r2.d;have hab:=Int.mul_nonneg ha hb;show((FloatKind.f64.format.read (fN a)).product (FloatKind.f64.format.read (fN b))).map FloatKind.f64.format.write=_
 rw[d1,d2];unfold Ieee.Datum.product;simp only[Option.map_some];have e1:a.natAbs*2^k*(b.natAbs*2^l)=(a*b).natAbs*2^(k+l):=by
  rw[Int.natAbs_mul,Nat.pow_add,Nat.mul_mul_mul_comm]
 have e2: -(k:Int)+ -(l:Int)= -((k+l:Nat):Int):=by omega
 have e3:(decide (a<0)^^decide (b<0))=decide (a*b<0):=by
  rw[decide_eq_false (show ¬a<0 by omega),decide_eq_false (show ¬b<0 by omega),decide_eq_false (show ¬a*b<0 by omega)];rfl
 rw[e1,e2,e3,write_scale (by omega)]
theorem ford {a b:Int} (ha:a.natAbs<2^53) (hb:b.natAbs<2^53):FloatKind.f64.format.order (fN a) (fN b)=some (compare a b):=by
 obtain⟨k,r1⟩:=rep ha;obtain⟨l,r2⟩:=rep hb;have d1:FloatKind.f64.format.read (fN a)=_:=r1.d;have d2:FloatKind.f64.format.read (fN b)=_:=r2.d;show Ieee.Datum.order (FloatKind.f64.format.read (fN a)) (FloatKind.f64.format.read (fN b))=_;rw[d1,d2];unfold Ieee.Datum.order;have hb2:min (-(k:Int)) (-(l:Int))= -((max k l:Nat):Int):=by omega
 have u1:(-(k:Int)- -((max k l:Nat):Int)).toNat=max k l-k:=by omega
 have u2:(-(l:Int)- -((max k l:Nat):Int)).toNat=max k l-l:=by omega
 simp only[hb2,u1,u2];rw[signed_up,signed_up,show k+(max k l-k)=max k l by omega,show l+(max k l-l)=max k l by omega];have hp:(0:Int)<2^max k l:=Int.pow_pos (by decide);congr 1;rcases Int.lt_trichotomy a b with h|h|h
 ·rw[Int.compare_eq_lt.2 h,Int.compare_eq_lt];exact Int.mul_lt_mul_of_pos_right h hp
 ·rw[h,Int.compare_eq_eq.2 rfl,Int.compare_eq_eq.2 rfl]
 ·rw[Int.compare_eq_gt.2 h,Int.compare_eq_gt];exact Int.mul_lt_mul_of_pos_right h hp
theorem cut_trunc {m k:Nat} (s:Bool):Ieee.Toward.zero.cut s (m*2^k) k=m:=by
 unfold Ieee.Toward.cut;simp only[Bool.toNat_false,Nat.add_zero];rcases Nat.eq_zero_or_pos m with rfl|h1
 ·rw[Nat.zero_mul,Nat.zero_div]
 ·have hl:=log2_mul (s:=k) h1;rw[Nat.min_eq_left (by omega),Nat.shiftLeft_eq,Nat.one_mul];exact Nat.mul_div_cancel _ (Nat.two_pow_pos k)
theorem integral_rep {n:Int} {x k:Nat} (h:Rep n x k):(FloatKind.f64.decode x).integral .zero=.number (decide (n<0)) n.natAbs 0:=by
 rw[h.d];unfold Ieee.Datum.integral;have e1:(-(k:Int)).toNat=0:=by omega
 have e2:(- -(k:Int)).toNat=k:=by omega
 simp only[e1,e2,Nat.shiftLeft_zero,cut_trunc]
theorem ftrunc {n:Int} (h:n.natAbs<2^53):truncW (fN n)=fN n∧finW (fN n)=true:=by
 obtain⟨k,r⟩:=rep h;constructor
 ·unfold truncW;rw[integral_rep r];rfl
 ·unfold finW;rw[r.d]
theorem fint {n:Int} (h:n.natAbs<2^53):fIv (fN n) .i64=some n:=by
 obtain⟨k,r⟩:=rep h;unfold fIv Ieee.Datum.toInt;rw[integral_rep r];have e:Ieee.signed (decide (n<0)) n.natAbs 0=n:=by
  have:=signed_up (n:=n) (k:=0) (u:=0);rw[Nat.pow_zero,Nat.mul_one] at this;rw[this];simp
 simp only[e];have hm:(IntKind.i64.min≤n∧n≤IntKind.i64.max):=by
  have h1:IntKind.i64.min= -9223372036854775808:=by decide
  have h2:IntKind.i64.max=9223372036854775807:=by decide
  rw[h1,h2];omega
 rw[decide_eq_true hm];rfl
theorem fwhole {n a b:Int} (h:n.natAbs<2^53) (ha:a.natAbs<2^53) (hb:b.natAbs<2^53):wholeW (fN n) (fN a) (fN b)=(decide (a≤n)&&decide (n≤b)):=by
 have o3:=ford h h;unfold wholeW fRel;simp only[(ftrunc h).1,ford h ha,ford h hb,o3,Int.compare_eq_eq.2 rfl];rcases Int.lt_trichotomy n a with h1|h1|h1
 ·rw[Int.compare_eq_lt.2 h1,decide_eq_false (show ¬a≤n by omega)];rfl
 ·rw[Int.compare_eq_eq.2 h1,decide_eq_true (show a≤n by omega)];rcases Int.lt_trichotomy n b with h2|h2|h2
  ·rw[Int.compare_eq_lt.2 h2,decide_eq_true (show n≤b by omega)];rfl
  ·rw[Int.compare_eq_eq.2 h2,decide_eq_true (show n≤b by omega)];rfl
  ·rw[Int.compare_eq_gt.2 h2,decide_eq_false (show ¬n≤b by omega)];rfl
 ·rw[Int.compare_eq_gt.2 h1,decide_eq_true (show a≤n by omega)];rcases Int.lt_trichotomy n b with h2|h2|h2
  ·rw[Int.compare_eq_lt.2 h2,decide_eq_true (show n≤b by omega)];rfl
  ·rw[Int.compare_eq_eq.2 h2,decide_eq_true (show n≤b by omega)];rfl
  ·rw[Int.compare_eq_gt.2 h2,decide_eq_false (show ¬n≤b by omega)];rfl
end Nice
