/-
  Part of the proof: Shelf15 Lib15 CScan QA LA LB LD LU PMay PFlo. No condition.
-/
import Derived.Shelf.LaysC
import Derived.Ground.GgwProg
import Derived.Shelf.Strconv.AtoiAll
import Derived.Test.YtldllfocpadkeaaGreatDoorProg
import Derived.Test.YtldllfocpadkeaaGreatDoorSym
import Derived.Test.YtldllfocpadkeaaGreatDoorG1
import Derived.Lib.AtoiErrMem
import Derived.Tactics2
import Derived.WalkKit
import Derived.Test.YtldllfocpadkeaaGreatDoorG2
namespace Go.Proofs.YtldllfocpadkeaaGreatDoor
open Go Go.Eng Nice Go.RowKit
set_option maxRecDepth 1000000
theorem glE {v:Value} (h:glR (er false) v):v=.nilIface∨∃te pe,v=.iface te pe:=by
 rcases h with⟨hp,_⟩|⟨b,_,he⟩|⟨k,m,he,_⟩
 ·cases hp
 ·unfold isE at he
  split at he
  ·exact .inl rfl
  ·exact .inr ⟨_,_,rfl⟩
  ·cases he
 ·cases he
theorem same_of {w w':World} (h:Below w.heap.size w w'):Same w w':=⟨h.size,h.os,h.output,fun b hb=>h.block b hb⟩
theorem bs_data (s:List UInt8):(bs s).data.toList=s:=by simp[bs]
theorem bs_len (s:List UInt8):(bs s).size=s.length:=by simp[bs,ByteArray.size]
theorem pc_mk {f:FuncId} {S:PSpec} (h:∀(fz:Nat→Option (Array Value)) (w:World) (args:Array Value) (x:DenL S.ts),GlW glC w→RdAll fz S.ts x args.toList→S.pre x=true→
  Calls Tryz.prog f args w fun e w'=>∃vs,e=.returned (resV vs)∧RdAll fz S.rs (S.g x) vs∧Same w w'):PC f S:=by
 intro fz w args x hfz hgl hr hp;refine(h fz w args x hgl hr hp).mono ?_;rintro e w' ⟨vs,rfl,hv,hs⟩;have hlt:∀b c,fz b=some c→b<w.heap.size:=fun b c hb=>by
  obtain⟨e,fr,h⟩:=hfz b c hb;exact(Array.getElem?_eq_some_iff.1 h).1
 exact⟨vs,fz,rfl,fun _ _ h=>h,hfz.keep fun b c hb=>hs.2.2.2 b (hlt b c hb),fun _ _ h=>.inl h,hv,hs⟩
theorem rd_cons {fz:Nat→Option (Array Value)} {t:Ty} {ts:List Ty} {x:DenL (t::ts)} {l:List Value} (ht:t.agg=false) (h:RdAll fz (t::ts) x l):∃v r,l=v::r∧RdC fz t x.1 [v]∧RdAll fz ts x.2 r:=by
 obtain⟨v,r,e,hv,hr⟩:=h;rcases hv with⟨h,_⟩|⟨_,hv⟩
 ·rw[ht] at h;cases h
 ·exact⟨v,r,e,hv,hr⟩
end Go.Proofs.YtldllfocpadkeaaGreatDoor
namespace Go.Proofs.YtldllfocpadkeaaGreatDoor
open Go Go.Eng Nice
set_option maxRecDepth 1000000
theorem cap_c:PC 163 capS:=(pureO (envS_ok (l:=[]) trivial) gl_ne Tryz.func163 (by kernel_rfl) (by decide)).nice fun⟨c,()⟩ _=>cap_n c
theorem slower_c:PC 128 lowerS:=(pureO (envS_ok (l:=[(163,capS)]) ⟨cap_c,trivial⟩) gl_ne Tryz.func128 (by kernel_rfl) (by decide)).nice fun⟨s,()⟩ h=>slower_n s h
theorem sval_c:PC 84 valueS:=(pureO (envS_ok (l:=[(128,lowerS)]) ⟨slower_c,trivial⟩) gl_ne Tryz.func84 (by kernel_rfl) (by decide)).nice fun⟨r,s,()⟩ h=>sval_n r s h
theorem cut_c:PC 28 cutS:=(pureO (envS_ok (l:=[]) trivial) gl_ne Tryz.func28 (by kernel_rfl) (by decide)).nice fun⟨s,n,()⟩ h=>cut_n s n (of_decide_eq_true h)
end Go.Proofs.YtldllfocpadkeaaGreatDoor
namespace Go.Proofs.YtldllfocpadkeaaGreatDoor
open Go Go.Eng Nice
set_option maxRecDepth 1000000
abbrev shkeyCh:List (Nat×List (Nat×Sh)):=[]
noncomputable def okeyCh (x:DenL [.byte]):Option (DenL [.bool]):=fO Tryz.prog (envS []) (shOf shkeyCh) Tryz.f188 [.byte] [.bool] x
theorem ekeyCh_g (N:Nat) (x0:UInt8):fON Tryz.prog (envS []) (shOf shkeyCh) Tryz.f188 [.byte] [.bool] N (x0,())=
 (bif decide ((↑x0.toNat:Int)≥(97:Int)) then
  (bif decide ((↑x0.toNat:Int)≤(122:Int)) then
   (some (true,PUnit.unit))
  else
   (bif decide ((↑x0.toNat:Int)≥(48:Int)) then
    (bif decide ((↑x0.toNat:Int)≤(57:Int)) then
     (some (true,PUnit.unit))
    else
     (bif (↑x0.toNat:Int)==(46:Int) then
      (some (true,PUnit.unit))
     else
      (bif (↑x0.toNat:Int)==(45:Int) then
       (some (true,PUnit.unit))
      else
       (bif (↑x0.toNat:Int)==(95:Int) then
        (some (true,PUnit.unit))
       else
        (bif (↑x0.toNat:Int)==(47:Int) then
         (some (true,PUnit.unit))
        else
         (some (false,PUnit.unit)))))))
   else
    (bif (↑x0.toNat:Int)==(46:Int) then
     (some (true,PUnit.unit))
    else
     (bif (↑x0.toNat:Int)==(45:Int) then
      (some (true,PUnit.unit))
     else
      (bif (↑x0.toNat:Int)==(95:Int) then
       (some (true,PUnit.unit))
      else
       (bif (↑x0.toNat:Int)==(47:Int) then
        (some (true,PUnit.unit))
       else
        (some (false,PUnit.unit))))))))
 else
  (bif decide ((↑x0.toNat:Int)≥(48:Int)) then
   (bif decide ((↑x0.toNat:Int)≤(57:Int)) then
    (some (true,PUnit.unit))
   else
    (bif (↑x0.toNat:Int)==(46:Int) then
     (some (true,PUnit.unit))
    else
     (bif (↑x0.toNat:Int)==(45:Int) then
      (some (true,PUnit.unit))
     else
      (bif (↑x0.toNat:Int)==(95:Int) then
       (some (true,PUnit.unit))
      else
       (bif (↑x0.toNat:Int)==(47:Int) then
        (some (true,PUnit.unit))
       else
        (some (false,PUnit.unit)))))))
  else
   (bif (↑x0.toNat:Int)==(46:Int) then
    (some (true,PUnit.unit))
   else
    (bif (↑x0.toNat:Int)==(45:Int) then
     (some (true,PUnit.unit))
    else
     (bif (↑x0.toNat:Int)==(95:Int) then
      (some (true,PUnit.unit))
     else
      (bif (↑x0.toNat:Int)==(47:Int) then
       (some (true,PUnit.unit))
      else
       (some (false,PUnit.unit)))))))):=by kernel_rfl
theorem ekeyCh (x0:UInt8):okeyCh (x0,())=
 (bif decide ((↑x0.toNat:Int)≥(97:Int)) then
  (bif decide ((↑x0.toNat:Int)≤(122:Int)) then
   (some (true,PUnit.unit))
  else
   (bif decide ((↑x0.toNat:Int)≥(48:Int)) then
    (bif decide ((↑x0.toNat:Int)≤(57:Int)) then
     (some (true,PUnit.unit))
    else
     (bif (↑x0.toNat:Int)==(46:Int) then
      (some (true,PUnit.unit))
     else
      (bif (↑x0.toNat:Int)==(45:Int) then
       (some (true,PUnit.unit))
      else
       (bif (↑x0.toNat:Int)==(95:Int) then
        (some (true,PUnit.unit))
       else
        (bif (↑x0.toNat:Int)==(47:Int) then
         (some (true,PUnit.unit))
        else
         (some (false,PUnit.unit)))))))
   else
    (bif (↑x0.toNat:Int)==(46:Int) then
     (some (true,PUnit.unit))
    else
     (bif (↑x0.toNat:Int)==(45:Int) then
      (some (true,PUnit.unit))
     else
      (bif (↑x0.toNat:Int)==(95:Int) then
       (some (true,PUnit.unit))
      else
       (bif (↑x0.toNat:Int)==(47:Int) then
        (some (true,PUnit.unit))
       else
        (some (false,PUnit.unit))))))))
 else
  (bif decide ((↑x0.toNat:Int)≥(48:Int)) then
   (bif decide ((↑x0.toNat:Int)≤(57:Int)) then
    (some (true,PUnit.unit))
   else
    (bif (↑x0.toNat:Int)==(46:Int) then
     (some (true,PUnit.unit))
    else
     (bif (↑x0.toNat:Int)==(45:Int) then
      (some (true,PUnit.unit))
     else
      (bif (↑x0.toNat:Int)==(95:Int) then
       (some (true,PUnit.unit))
      else
       (bif (↑x0.toNat:Int)==(47:Int) then
        (some (true,PUnit.unit))
       else
        (some (false,PUnit.unit)))))))
  else
   (bif (↑x0.toNat:Int)==(46:Int) then
    (some (true,PUnit.unit))
   else
    (bif (↑x0.toNat:Int)==(45:Int) then
     (some (true,PUnit.unit))
    else
     (bif (↑x0.toNat:Int)==(95:Int) then
      (some (true,PUnit.unit))
     else
      (bif (↑x0.toNat:Int)==(47:Int) then
       (some (true,PUnit.unit))
      else
       (some (false,PUnit.unit)))))))):=ekeyCh_g heads0 x0
abbrev shdKey:List (Nat×List (Nat×Sh)):=[(2,[(0,(.one .sym)),(2,(.one .sym)),(5,(.one .sym)),(6,(.one .sym))])]
noncomputable def hdKey_0 (n:Nat) (t0:List UInt8) (t2:Bool) (t5:Int) (t6:Int):Option (DenL [.bool]):=rH Tryz.prog (envS [(188,keyChS)]) (shOf shdKey) Tryz.f135 [.bool] n 0 [(0,sy (.string (bs t0))),(2,.bool t2),(5,sy (.int .i64 t5)),(6,sy (.int .i64 t6))] []
noncomputable def odKey (x:DenL [.str]):Option (DenL [.bool]):=fO Tryz.prog (envS [(188,keyChS)]) (shOf shdKey) Tryz.f135 [.str] [.bool] x
theorem edKey_g (N:Nat) (x0:List UInt8):fON Tryz.prog (envS [(188,keyChS)]) (shOf shdKey) Tryz.f135 [.str] [.bool] N (x0,())=
 (hdKey_0 N (x0) (false) ((↑x0.length:Int)) ((0:Int))):=by kernel_rfl
theorem edKey (x0:List UInt8):odKey (x0,())=
 (hdKey_0 heads0 (x0) (false) ((↑x0.length:Int)) ((0:Int))):=edKey_g heads0 x0
theorem edKey_0 (n:Nat) (t0:List UInt8) (t2:Bool) (t5:Int) (t6:Int):hdKey_0 (n+1) t0 t2 t5 t6=
 (bif decide (t6<t5) then
  (bif keyCh (UInt8.ofNat (↑(t0.getD t6.toNat 0).toNat:Int).toNat) then
   (gd [decide (inK IntKind.i64 (t6+(1:Int))),decide (inK IntKind.u8 (↑(t0.getD t6.toNat 0).toNat:Int)),decide ((0:Int)≤t6),decide (t6<(↑t0.length:Int))] (hdKey_0 n (t0) (t2) (t5) (t6+(1:Int))))
  else
   (gd [decide (inK IntKind.u8 (↑(t0.getD t6.toNat 0).toNat:Int)),decide ((0:Int)≤t6),decide (t6<(↑t0.length:Int))] (some (false,PUnit.unit))))
 else
  (bif decide ((↑t0.length:Int)≥(1:Int)) then
   (bif decide ((↑t0.length:Int)≤(40:Int)) then
    (some (true,PUnit.unit))
   else
    (some (false,PUnit.unit)))
  else
   (some (false,PUnit.unit)))):=by kernel_rfl
abbrev shrKey:List (Nat×List (Nat×Sh)):=[(2,[(0,(.one .sym)),(2,(.one .sym)),(3,(.one .sym))])]
noncomputable def hrKey_0 (n:Nat) (t0:List UInt8) (t2:Bool) (t3:Int):Option (DenL [.bool]):=rH Tryz.prog (envS []) (shOf shrKey) Tryz.f74 [.bool] n 0 [(0,sy (.string (bs t0))),(2,.bool t2),(3,sy (.int .i64 t3))] []
noncomputable def orKey (x:DenL [.str]):Option (DenL [.bool]):=fO Tryz.prog (envS []) (shOf shrKey) Tryz.f74 [.str] [.bool] x
theorem erKey_g (N:Nat) (x0:List UInt8):fON Tryz.prog (envS []) (shOf shrKey) Tryz.f74 [.str] [.bool] N (x0,())=
 (hrKey_0 N (x0) (false) ((0:Int))):=by kernel_rfl
theorem erKey (x0:List UInt8):orKey (x0,())=
 (hrKey_0 heads0 (x0) (false) ((0:Int))):=erKey_g heads0 x0
theorem erKey_0 (n:Nat) (t0:List UInt8) (t2:Bool) (t3:Int):hrKey_0 (n+1) t0 t2 t3=
 (bif decide (t3<(↑t0.length:Int)) then
  (gd [decide ((0:Int)≤t3),decide (t3<(↑t0.length:Int))] (bif decide ((↑(t0.getD t3.toNat 0).toNat:Int)<(97:Int)) then
   (bif decide ((↑(t0.getD t3.toNat 0).toNat:Int)<(48:Int)) then
    (bif (↑(t0.getD t3.toNat 0).toNat:Int) !=(46:Int) then
     (bif (↑(t0.getD t3.toNat 0).toNat:Int) !=(45:Int) then
      (bif (↑(t0.getD t3.toNat 0).toNat:Int) !=(95:Int) then
       (bif (↑(t0.getD t3.toNat 0).toNat:Int) !=(47:Int) then
        (some (false,PUnit.unit))
       else
        (gd [decide (inK IntKind.i64 (t3+(1:Int)))] (hrKey_0 n (t0) (t2) (t3+(1:Int)))))
      else
       (gd [decide (inK IntKind.i64 (t3+(1:Int)))] (hrKey_0 n (t0) (t2) (t3+(1:Int)))))
     else
      (gd [decide (inK IntKind.i64 (t3+(1:Int)))] (hrKey_0 n (t0) (t2) (t3+(1:Int)))))
    else
     (gd [decide (inK IntKind.i64 (t3+(1:Int)))] (hrKey_0 n (t0) (t2) (t3+(1:Int)))))
   else
    (bif decide ((↑(t0.getD t3.toNat 0).toNat:Int)>(57:Int)) then
     (bif (↑(t0.getD t3.toNat 0).toNat:Int) !=(46:Int) then
      (bif (↑(t0.getD t3.toNat 0).toNat:Int) !=(45:Int) then
       (bif (↑(t0.getD t3.toNat 0).toNat:Int) !=(95:Int) then
        (bif (↑(t0.getD t3.toNat 0).toNat:Int) !=(47:Int) then
         (some (false,PUnit.unit))
        else
         (gd [decide (inK IntKind.i64 (t3+(1:Int)))] (hrKey_0 n (t0) (t2) (t3+(1:Int)))))
       else
        (gd [decide (inK IntKind.i64 (t3+(1:Int)))] (hrKey_0 n (t0) (t2) (t3+(1:Int)))))
      else
       (gd [decide (inK IntKind.i64 (t3+(1:Int)))] (hrKey_0 n (t0) (t2) (t3+(1:Int)))))
     else
      (gd [decide (inK IntKind.i64 (t3+(1:Int)))] (hrKey_0 n (t0) (t2) (t3+(1:Int)))))
    else
     (gd [decide (inK IntKind.i64 (t3+(1:Int)))] (hrKey_0 n (t0) (t2) (t3+(1:Int))))))
  else
   (bif decide ((↑(t0.getD t3.toNat 0).toNat:Int)>(122:Int)) then
    (bif decide ((↑(t0.getD t3.toNat 0).toNat:Int)<(48:Int)) then
     (bif (↑(t0.getD t3.toNat 0).toNat:Int) !=(46:Int) then
      (bif (↑(t0.getD t3.toNat 0).toNat:Int) !=(45:Int) then
       (bif (↑(t0.getD t3.toNat 0).toNat:Int) !=(95:Int) then
        (bif (↑(t0.getD t3.toNat 0).toNat:Int) !=(47:Int) then
         (some (false,PUnit.unit))
        else
         (gd [decide (inK IntKind.i64 (t3+(1:Int)))] (hrKey_0 n (t0) (t2) (t3+(1:Int)))))
       else
        (gd [decide (inK IntKind.i64 (t3+(1:Int)))] (hrKey_0 n (t0) (t2) (t3+(1:Int)))))
      else
       (gd [decide (inK IntKind.i64 (t3+(1:Int)))] (hrKey_0 n (t0) (t2) (t3+(1:Int)))))
     else
      (gd [decide (inK IntKind.i64 (t3+(1:Int)))] (hrKey_0 n (t0) (t2) (t3+(1:Int)))))
    else
     (bif decide ((↑(t0.getD t3.toNat 0).toNat:Int)>(57:Int)) then
      (bif (↑(t0.getD t3.toNat 0).toNat:Int) !=(46:Int) then
       (bif (↑(t0.getD t3.toNat 0).toNat:Int) !=(45:Int) then
        (bif (↑(t0.getD t3.toNat 0).toNat:Int) !=(95:Int) then
         (bif (↑(t0.getD t3.toNat 0).toNat:Int) !=(47:Int) then
          (some (false,PUnit.unit))
         else
          (gd [decide (inK IntKind.i64 (t3+(1:Int)))] (hrKey_0 n (t0) (t2) (t3+(1:Int)))))
        else
         (gd [decide (inK IntKind.i64 (t3+(1:Int)))] (hrKey_0 n (t0) (t2) (t3+(1:Int)))))
       else
        (gd [decide (inK IntKind.i64 (t3+(1:Int)))] (hrKey_0 n (t0) (t2) (t3+(1:Int)))))
      else
       (gd [decide (inK IntKind.i64 (t3+(1:Int)))] (hrKey_0 n (t0) (t2) (t3+(1:Int)))))
     else
      (gd [decide (inK IntKind.i64 (t3+(1:Int)))] (hrKey_0 n (t0) (t2) (t3+(1:Int))))))
   else
    (gd [decide (inK IntKind.i64 (t3+(1:Int)))] (hrKey_0 n (t0) (t2) (t3+(1:Int)))))))
 else
  (bif decide ((↑t0.length:Int)≥(1:Int)) then
   (bif decide ((↑t0.length:Int)≤(40:Int)) then
    (some (true,PUnit.unit))
   else
    (some (false,PUnit.unit)))
  else
   (some (false,PUnit.unit)))):=by kernel_rfl
abbrev shanum:List (Nat×List (Nat×Sh)):=[]
noncomputable def oanum (x:DenL [.str,.int .i64,.int .i64,.int .i64]):Option (DenL [.int .i64,.bool]):=fO Tryz.prog (envS [(189,idxFS 190),(191,parseS)]) (shOf shanum) Tryz.f136 [.str,.int .i64,.int .i64,.int .i64] [.int .i64,.bool] x
theorem eanum_g (N:Nat) (x0:List UInt8) (x1 x2 x3:Int):fON Tryz.prog (envS [(189,idxFS 190),(191,parseS)]) (shOf shanum) Tryz.f136 [.str,.int .i64,.int .i64,.int .i64] [.int .i64,.bool] N (x0,x1,x2,x3,())=
 (bif decide (idxF x0≥(0:Int)) then
  (gd [bndS x0&&(decide ((10:Int)=(10:Int))&&decide ((64:Int)=(64:Int)))] (some ((intN x0).fst,false,PUnit.unit)))
 else
  (gd [bndS x0&&(decide ((10:Int)=(10:Int))&&decide ((64:Int)=(64:Int)))] (bif (intN x0).snd then
   (bif decide ((↑x0.length:Int)≤x1) then
    (bif decide ((intN x0).fst≥x2) then
     (bif decide ((intN x0).fst≤x3) then
      (some ((intN x0).fst,true,PUnit.unit))
     else
      (some ((intN x0).fst,false,PUnit.unit)))
    else
     (some ((intN x0).fst,false,PUnit.unit)))
   else
    (some ((intN x0).fst,false,PUnit.unit)))
  else
   (some ((intN x0).fst,false,PUnit.unit))))):=by kernel_rfl
theorem eanum (x0:List UInt8) (x1 x2 x3:Int):oanum (x0,x1,x2,x3,())=
 (bif decide (idxF x0≥(0:Int)) then
  (gd [bndS x0&&(decide ((10:Int)=(10:Int))&&decide ((64:Int)=(64:Int)))] (some ((intN x0).fst,false,PUnit.unit)))
 else
  (gd [bndS x0&&(decide ((10:Int)=(10:Int))&&decide ((64:Int)=(64:Int)))] (bif (intN x0).snd then
   (bif decide ((↑x0.length:Int)≤x1) then
    (bif decide ((intN x0).fst≥x2) then
     (bif decide ((intN x0).fst≤x3) then
      (some ((intN x0).fst,true,PUnit.unit))
     else
      (some ((intN x0).fst,false,PUnit.unit)))
    else
     (some ((intN x0).fst,false,PUnit.unit)))
   else
    (some ((intN x0).fst,false,PUnit.unit)))
  else
   (some ((intN x0).fst,false,PUnit.unit))))):=eanum_g heads0 x0 x1 x2 x3
abbrev shhp:List (Nat×List (Nat×Sh)):=[]
noncomputable def ohp (x:DenL [.str,.str]):Option (DenL [.bool]):=fO Tryz.prog (envS []) (shOf shhp) Tryz.f131 [.str,.str] [.bool] x
theorem ehp_g (N:Nat) (x0 x1:List UInt8):fON Tryz.prog (envS []) (shOf shhp) Tryz.f131 [.str,.str] [.bool] N (x0,x1,())=
 (bif decide ((↑x0.length:Int)≥(↑x1.length:Int)) then
  (bif List.take (↑x1.length:Int).toNat x0==x1 then
   (gd [decide ((↑x1.length:Int)≤(↑x0.length:Int))] (some (true,PUnit.unit)))
  else
   (gd [decide ((↑x1.length:Int)≤(↑x0.length:Int))] (some (false,PUnit.unit))))
 else
  (some (false,PUnit.unit))):=by kernel_rfl
theorem ehp (x0 x1:List UInt8):ohp (x0,x1,())=
 (bif decide ((↑x0.length:Int)≥(↑x1.length:Int)) then
  (bif List.take (↑x1.length:Int).toNat x0==x1 then
   (gd [decide ((↑x1.length:Int)≤(↑x0.length:Int))] (some (true,PUnit.unit)))
  else
   (gd [decide ((↑x1.length:Int)≤(↑x0.length:Int))] (some (false,PUnit.unit))))
 else
  (some (false,PUnit.unit))):=ehp_g heads0 x0 x1
abbrev shcp:List (Nat×List (Nat×Sh)):=[]
noncomputable def ocp (x:DenL [.str,.str]):Option (DenL [.str,.bool]):=fO Tryz.prog (envS [(131,hasPreS)]) (shOf shcp) Tryz.f194 [.str,.str] [.str,.bool] x
theorem ecp_g (N:Nat) (x0 x1:List UInt8):fON Tryz.prog (envS [(131,hasPreS)]) (shOf shcp) Tryz.f194 [.str,.str] [.str,.bool] N (x0,x1,())=
 (bif hasPre x0 x1 then
  (gd [decide ((↑x1.length:Int)≤(↑x0.length:Int))] (some (List.drop (↑x1.length:Int).toNat x0,true,PUnit.unit)))
 else
  (some (x0,false,PUnit.unit))):=by kernel_rfl
theorem ecp (x0 x1:List UInt8):ocp (x0,x1,())=
 (bif hasPre x0 x1 then
  (gd [decide ((↑x1.length:Int)≤(↑x0.length:Int))] (some (List.drop (↑x1.length:Int).toNat x0,true,PUnit.unit)))
 else
  (some (x0,false,PUnit.unit))):=ecp_g heads0 x0 x1
end Go.Proofs.YtldllfocpadkeaaGreatDoor
namespace Go.Proofs.YtldllfocpadkeaaGreatDoor
open Go Go.Eng Nice
set_option maxRecDepth 100000
theorem keyCh_iff {c:UInt8}:keyCh c=true↔(97≤c.toNat∧c.toNat≤122∨48≤c.toNat∧c.toNat≤57∨c.toNat=46∨c.toNat=45∨c.toNat=95∨c.toNat=47):=by
 unfold keyCh;rw[decide_eq_true_iff]
theorem keyCh_not {c:UInt8}:keyCh c=false↔¬(97≤c.toNat∧c.toNat≤122∨48≤c.toNat∧c.toNat≤57∨c.toNat=46∨c.toNat=45∨c.toNat=95∨c.toNat=47):=by
 unfold keyCh;rw[decide_eq_false_iff_not]
theorem beT {α:Type} {n m:Int} {a b:α} (h:n=m):(bif n==m then a else b)=a:=by subst h;rw[show(n==n)=true from beq_self_eq_true n];rfl
theorem beF {α:Type} {n m:Int} {a b:α} (h:n≠m):(bif n==m then a else b)=b:=by rw[show(n==m)=false from beq_eq_false_iff_ne.2 h];rfl
theorem bnT {α:Type} {n m:Int} {a b:α} (h:n≠m):(bif n !=m then a else b)=a:=by rw[show(n !=m)=true from bne_iff_ne.2 h];rfl
theorem bnF {α:Type} {n m:Int} {a b:α} (h:n=m):(bif n !=m then a else b)=b:=by rw[show(n !=m)=false from by subst h;exact bne_self_eq_false n];rfl
theorem key_cases (c:UInt8):(c.toNat=45∧keyCh c=true)∨(c.toNat=46∧keyCh c=true)∨(c.toNat=47∧keyCh c=true)∨((48≤c.toNat∧c.toNat≤57)∧keyCh c=true)∨(c.toNat=95∧keyCh c=true)∨((97≤c.toNat∧c.toNat≤122)∧keyCh c=true)∨
  (c.toNat<45∧keyCh c=false)∨((57<c.toNat∧c.toNat<97∧c.toNat≠95)∧keyCh c=false)∨(122<c.toNat∧keyCh c=false):=by
 by_cases h:keyCh c=true
 ·have:=keyCh_iff.1 h;rw[h];simp only[and_true,reduceCtorEq,and_false,or_false];omega
 ·have h:keyCh c=false:=by simpa using h
  have:=keyCh_not.1 h;rw[h];simp only[and_true,reduceCtorEq,and_false,false_or];omega
theorem keyCh_n (c:UInt8):okeyCh (c,())=some (keyCh c,()):=by
 rw[ekeyCh];rcases key_cases c with⟨h,e⟩|⟨h,e⟩|⟨h,e⟩|⟨h,e⟩|⟨h,e⟩|⟨h,e⟩|⟨h,e⟩|⟨h,e⟩|⟨h,e⟩<;>rw[e]<;>simp(disch:=omega) only[cdT,cdF,beT,beF]
theorem dKey_l (t2:Bool) (s:List UInt8) (hl:s.length≤140737488355328):∀(rest done:List UInt8) (n:Nat),s=done++rest→rest.length<n→hdKey_0 n s t2 (s.length:Int) (done.length:Int)=some (rest.all keyCh&&(decide (1≤s.length)&&decide (s.length≤40)),())
 |[],done,n,hs,hn=>by
  obtain⟨m,rfl⟩:∃m,n=m+1:=⟨n-1,by omega⟩
  have:s.length=done.length:=by rw[hs];simp
  rw[edKey_0,cdF (by omega)];simp only[List.all_nil,Bool.true_and];by_cases h1:1≤s.length
  ·rw[cdT (by omega)];by_cases h2:s.length≤40
   ·rw[cdT (by omega)];simp[h1,h2]
   ·rw[cdF (by omega)];simp[h1,h2]
  ·rw[cdF (by omega)];simp[h1]
 |c::rest,done,n,hs,hn=>by
  obtain⟨m,rfl⟩:∃m,n=m+1:=⟨n-1,by omega⟩
  have hsl:s.length=done.length+(rest.length+1):=by rw[hs];simp
  simp only[List.length_cons] at hn;have ih:=dKey_l t2 s hl rest (done++[c]) m (by simp[hs]) (by omega);simp only[List.length_append,List.length_singleton,Int.natCast_add] at ih;have hg:s.getD done.length 0=c:=by rw[hs,getD_mid]
  have hc:=c.toNat_lt;rw[edKey_0];simp only[Int.toNat_natCast,hg,UInt8.ofNat_toNat];rw[cdT (by omega)];cases hb:keyCh c
  ·rw[cond_false];simp(disch:=omega) only[gdT,gd_nil,inK_u8];simp[hb]
  ·rw[cond_true];simp(disch:=omega) only[gdT,gd_nil,inK_u8,inK_i64];simp only[List.all_cons,hb,Bool.true_and];exact ih
theorem dKey_n (s:List UInt8) (h:bndS s=true):odKey (s,())=some (isKey s,()):=by
 have h:s.length≤140737488355328:=of_decide_eq_true h;rw[edKey];exact dKey_l false s h s [] heads0 rfl (by unfold heads0;omega)
theorem rKey_l (t2:Bool) (s:List UInt8) (hl:s.length≤140737488355328):∀(rest done:List UInt8) (n:Nat),s=done++rest→rest.length<n→hrKey_0 n s t2 (done.length:Int)=some (rest.all keyCh&&(decide (1≤s.length)&&decide (s.length≤40)),())
 |[],done,n,hs,hn=>by
  obtain⟨m,rfl⟩:∃m,n=m+1:=⟨n-1,by omega⟩
  have:s.length=done.length:=by rw[hs];simp
  rw[erKey_0,cdF (by omega)];simp only[List.all_nil,Bool.true_and];by_cases h1:1≤s.length
  ·rw[cdT (by omega)];by_cases h2:s.length≤40
   ·rw[cdT (by omega)];simp[h1,h2]
   ·rw[cdF (by omega)];simp[h1,h2]
  ·rw[cdF (by omega)];simp[h1]
 |c::rest,done,n,hs,hn=>by
  obtain⟨m,rfl⟩:∃m,n=m+1:=⟨n-1,by omega⟩
  have hsl:s.length=done.length+(rest.length+1):=by rw[hs];simp
  simp only[List.length_cons] at hn;have ih:=rKey_l t2 s hl rest (done++[c]) m (by simp[hs]) (by omega);simp only[List.length_append,List.length_singleton,Int.natCast_add] at ih;have hg:s.getD done.length 0=c:=by rw[hs,getD_mid]
  have hc:=c.toNat_lt;rw[erKey_0];simp only[Int.toNat_natCast,hg];rcases key_cases c with⟨h,e⟩|⟨h,e⟩|⟨h,e⟩|⟨h,e⟩|⟨h,e⟩|⟨h,e⟩|⟨h,e⟩|⟨h,e⟩|⟨h,e⟩<;>simp(disch:=omega) only[cdT,cdF,bnT,bnF,gdT,gd_nil,inK_i64]<;>simp only[List.all_cons,e,Bool.true_and,Bool.false_and]<;>first|rfl|exact ih
theorem rKey_n (s:List UInt8) (h:bndS s=true):orKey (s,())=some (isKey s,()):=by
 have h:s.length≤140737488355328:=of_decide_eq_true h;rw[erKey];exact rKey_l false s h s [] heads0 rfl (by unfold heads0;omega)
theorem anum_n (s:List UInt8) (most lo hi:Int) (h:bndS s=true):oanum (s,most,lo,hi,())=some ((numN s most lo hi).1,(numN s most lo hi).2,()):=by
 rw[eanum];have hp:(bndS s&&(decide True&&decide True))=true:=by rw[h];rfl
 simp only[gdB hp,gd_nil,idxF_ge,numN];cases allDig s
 ·simp only[Bool.not_false,cond_true,Bool.false_and]
 ·simp only[Bool.not_true,cond_false,Bool.true_and];cases(intN s).2
  ·simp only[cond_false,Bool.false_and]
  ·simp only[cond_true,Bool.true_and];by_cases h1:(s.length:Int)≤most
   ·rw[cdT h1,decide_eq_true h1,Bool.true_and];by_cases h2:(intN s).1≥lo
    ·rw[cdT h2,decide_eq_true h2,Bool.true_and];by_cases h3:(intN s).1≤hi
     ·rw[cdT h3,decide_eq_true h3]
     ·rw[cdF h3,decide_eq_false h3]
    ·rw[cdF h2,decide_eq_false h2,Bool.false_and]
   ·rw[cdF h1,decide_eq_false h1,Bool.false_and]
theorem hp_n (s p:List UInt8):ohp (s,p,())=some (hasPre s p,()):=by
 rw[ehp];unfold hasPre;by_cases h:p.length≤s.length
 ·rw[cdT (by omega),decide_eq_true h,Bool.true_and,gdT (by omega),gdT (by omega),gd_nil,gd_nil,Int.toNat_natCast];cases(s.take p.length==p)<;>rfl
 ·rw[cdF (by omega),decide_eq_false h,Bool.false_and]
theorem hasPre_len {s p:List UInt8} (h:hasPre s p=true):p.length≤s.length:=by
 unfold hasPre at h;rw[Bool.and_eq_true,decide_eq_true_eq] at h;exact h.1
theorem cp_n (s p:List UInt8):ocp (s,p,())=some ((cutPre s p).1,(cutPre s p).2,()):=by
 rw[ecp];unfold cutPre;cases hb:hasPre s p
 ·rfl
 ·have:=hasPre_len hb;rw[cond_true,cond_true,gdT (by omega),gd_nil,Int.toNat_natCast]
end Go.Proofs.YtldllfocpadkeaaGreatDoor
namespace Go.Proofs.YtldllfocpadkeaaGreatDoor
open Go Go.Eng Nice
set_option maxRecDepth 100000
theorem numN_pos {s:List UInt8} {most lo hi:Int} (h:(numN s most lo hi).2=true):0<s.length:=by
 cases s with
 |nil=>simp[numN,intN,Lib.parseIntB] at h
 |cons c r=>simp
theorem cutPre_bnd {q p:List UInt8} (h:bndS q=true):bndS (cutPre q p).1=true:=by
 have h:q.length≤140737488355328:=of_decide_eq_true h;refine decide_eq_true ?_;unfold cutPre;cases hasPre q p
 ·exact h
 ·simp only[cond_true,List.length_drop];omega
end Go.Proofs.YtldllfocpadkeaaGreatDoor
namespace Go.Proofs.YtldllfocpadkeaaGreatDoor
open Go Go.Eng Nice
set_option maxRecDepth 100000
theorem kT {α:Type} (a b:α):(bif true then a else b)=a:=Eq.trans (cond_true a b) rfl
theorem kF {α:Type} (a b:α):(bif false then a else b)=b:=Eq.trans (cond_false a b) rfl
theorem kG {α:Type} (r:Option α):gd [] r=r:=Eq.trans gd_nil rfl
theorem i20:((2:Int)==0)=false:=by decide
theorem i21:((2:Int)==1)=false:=by decide
theorem i32:((3:Int)==2)=false:=by decide
end Go.Proofs.YtldllfocpadkeaaGreatDoor
namespace Go.Proofs.YtldllfocpadkeaaGreatDoor
open Go Go.Eng Nice
set_option maxRecDepth 100000
theorem hsuf_n (s p:List UInt8) (h:bndS s=true):ohsuf (s,p,())=some (hasSuf s p,()):=by
 have h:s.length≤140737488355328:=of_decide_eq_true h;rw[ohsuf_g,ehsuf_g];unfold hasSuf;by_cases hl:p.length≤s.length
 ·have e:((s.length:Int)-(p.length:Int)).toNat=s.length-p.length:=by omega
  rw[cdT (by omega),decide_eq_true hl,Bool.true_and,e];cases s.drop (s.length-p.length)==p
  ·rw[kF];simp(disch:=omega) only[gdT,kG,inK_i64]
  ·rw[kT];simp(disch:=omega) only[gdT,kG,inK_i64]
 ·rw[cdF (by omega),decide_eq_false hl,Bool.false_and]
theorem csuf_n (s p:List UInt8) (h:bndS s=true):ocsuf (s,p,())=some ((cutSuf s p).1,(cutSuf s p).2,()):=by
 have hb:s.length≤140737488355328:=of_decide_eq_true h;rw[ocsuf_g,ecsuf_g];unfold cutSuf;cases hs:hasSuf s p
 ·simp only[kF]
  try rw[gdB h,kG]
 ·have hl:p.length≤s.length:=by
   unfold hasSuf at hs;rw[Bool.and_eq_true,decide_eq_true_eq] at hs;exact hs.1
  have e:((s.length:Int)-(p.length:Int)).toNat=s.length-p.length:=by omega
  simp only[kT,e];simp(disch:=first|omega|exact h) only[gdT,gdB,kG,inK_i64]
theorem sidx_l (x:List UInt8) (t4:Int) (len:Nat):∀(rest done:List (List UInt8)) (n:Nat),len=done.length+rest.length→len≤1000→rest.length<n→
  hsidx_0 n (done++rest) x t4 (len:Int) (done.length:Int)=some (idxG x rest (done.length:Int),())
 |[],done,n,he,hl,hn=>by
  obtain⟨m,rfl⟩:∃m,n=m+1:=⟨n-1,by omega⟩
  simp only[List.length_nil] at he;rw[esidx_0,cdF (by omega)];rfl
 |c::rest,done,n,he,hl,hn=>by
  obtain⟨m,rfl⟩:∃m,n=m+1:=⟨n-1,by omega⟩
  simp only[List.length_cons] at he hn;have ih:=sidx_l x t4 len rest (done++[c]) m (by simp;omega) hl (by omega);simp only[List.append_assoc,List.singleton_append,List.length_append,List.length_singleton,Int.natCast_add] at ih;rw[esidx_0,cdT (by omega)];simp only[Int.toNat_natCast,getD_mid,List.length_append,List.length_cons,idxG]
  cases x==c
  ·simp only[kF];simp(disch:=omega) only[gdT,kG,inK_i64];exact ih
  ·simp only[kT];simp(disch:=omega) only[gdT,kG,inK_i64]
theorem sidx_n (l:List (List UInt8)) (x:List UInt8) (h:decide (l.length≤1000)=true):osidx (l,x,())=some (idxS l x,()):=by
 have h:=of_decide_eq_true h;rw[osidx_g,esidx_g];exact sidx_l x 0 l.length l [] heads0 (by simp) h (by unfold heads0;omega)
theorem idxG_ge (x:List UInt8):∀(l:List (List UInt8)) (k:Int),0≤k→decide (idxG x l k≥0)=hasS l x
 |[],k,h=>by rfl
 |c::r,k,h=>by
  have ih:=idxG_ge x r (k+1) (by omega);unfold idxG hasS;simp only[List.any_cons];cases x==c
  ·simp only[kF,Bool.false_or];exact ih
  ·simp only[kT,Bool.true_or];exact decide_eq_true h
theorem shas_n (l:List (List UInt8)) (x:List UInt8) (h:decide (l.length≤1000)=true):oshas (l,x,())=some (hasS l x,()):=by
 rw[oshas_g,eshas_g];have e:decide (idxS l x≥0)=hasS l x:=idxG_ge x l 0 (Int.le_refl 0);rw[e];cases hasS l x<;>simp only[kT,kF]<;>rw[gdB h,kG]
theorem aconds_n (m p q:List UInt8) (hs:HeadL) (b:List UInt8) (h:condsP hs=true):oaconds ((m,p,q,hs,b,()),())=some ((condsN hs).1,(condsN hs).2.1,(condsN hs).2.2,()):=by
 unfold condsP at h;rw[Bool.and_eq_true,Bool.and_eq_true] at h;obtain⟨⟨h1,h2⟩,h3⟩:=h;rw[oaconds_g,eaconds_g];unfold condsN;cases(valueN hs inmW).2
 ·simp only[kF];rw[gdB h1,kG];cases(valueN hs imW).2
  ·simp only[kF];rw[gdB h2,kG]
  ·simp only[kT];have hb:bndS (cutPre (valueN hs imW).1 [34]).1=true:=by
    have h3:(valueN hs imW).1.length≤140737488355328:=of_decide_eq_true h3;unfold cutPre;cases hasPre (valueN hs imW).1 [34]
    ·exact decide_eq_true h3
    ·exact decide_eq_true (by show((valueN hs imW).1.drop _).length≤_;rw[List.length_drop];omega)
   rw[gdB hb,gdB h2,kG];unfold tagA;cases(gRead (cutSuf (cutPre (valueN hs imW).1 [34]).1 [34]).1).2<;>cases(cutPre (valueN hs imW).1 [34]).2<;>cases(cutSuf (cutPre (valueN hs imW).1 [34]).1 [34]).2<;>simp only[kT,kF,Bool.and_true,Bool.and_false,Bool.true_and,Bool.false_and]
 ·simp only[kT];rw[gdB h1,kG];cases(valueN hs imW).2
  ·simp only[kF];rw[gdB h2,kG];cases(valueN hs inmW).1==[42]<;>simp only[kT,kF]
  ·simp only[kT];rw[gdB h2,kG]
theorem akeyed_n (a:AskD) (m p q:List UInt8) (hs:HeadL) (b:List UInt8) (h:(condsP hs&&(bndS q&&bndS a.2.1))=true):
  oakeyed (a,(m,p,q,hs,b,()),())=some ((keyedG a m q hs b).1,(keyedG a m q hs b).2,()):=by
 rw[Bool.and_eq_true,Bool.and_eq_true] at h;obtain⟨hc,hq,hk⟩:=h;obtain⟨a0,k,a2,a3,a4,a5,a6,a7,a8,a9,⟨⟩⟩:=a;dsimp only at hk;rw[oakeyed_g,eakeyed_g];have hcb:=cutPre_bnd (p:=vPre) hq;unfold keyedG;dsimp only;rw[gdB hk,gdB hk,kG,kG];cases isKey k
 ·simp only[kF]
 ·simp only[kT];cases m==putW
  ·simp only[kF];simp only[gdB hcb,kG];unfold verN;generalize hn:numN (cutPre q vPre).fst ((cutPre q vPre).fst.length:Int) 1 1099511627776=nn;have hpos:nn.2=true→0<(cutPre q vPre).1.length:=fun h=>numN_pos (by rw[hn];exact h)
   generalize hcc:cutPre q vPre=c at *;have h48:∀{α:Type} (x y:α),(bif ((c.1.getD 0 0).toNat:Int) !=48 then x else y)=bif c.1.getD 0 0==48 then y else x:=by
    intro α x y;by_cases h:c.1.getD 0 0=48
    ·rw[h];rfl
    ·rw[bnT (by intro e;exact h (UInt8.toNat.inj (show _=(48:UInt8).toNat by have:(48:UInt8).toNat=48:=rfl;omega))),show(c.1.getD 0 0==48)=false from by simpa using h];rfl
   simp only[h48];cases hd:(m==delW)<;>cases hqq:(q==[])<;>simp only[kT,kF]<;>
   ·cases h1:nn.2<;>cases h2:c.2<;>try simp only[kT,kF,Bool.true_and,Bool.false_and]
    all_goals first
     |rfl
     |(have:=hpos h1
       cases h3:(c.1.getD 0 0==48)<;>simp(disch:=omega) only[kT,kF,gdT,kG,Bool.not_true,Bool.not_false]<;>rfl)
  ·simp only[kT];rw[gdB hc,gdB hc,kG,kG];cases(condsN hs).2.2<;>cases q==[]<;>simp only[kT,kF,Bool.true_and,Bool.false_and]<;>rfl
end Go.Proofs.YtldllfocpadkeaaGreatDoor
namespace Nice
open Go Go.Eng
def linv (a:AskD):Prop:=isL a.1=true∧mayL a=true
theorem lset_inv {n v:List UInt8} {a:AskD} (h:linv a) (ok:(lset n v a).2=true):linv (lset n v a).1:=by
 obtain⟨kd,k,w,b,c,t,p,f,m,br,⟨⟩⟩:=a;obtain⟨h1,h2⟩:=h;unfold mayL at h2;simp only[Bool.and_eq_true,beq_iff_eq,decide_eq_true_eq] at h1 h2;obtain⟨rfl,rfl,rfl,rfl,rfl,hp,hf,hm1,hm2⟩:=h2;unfold lset at ok⊢;cases e1:n==wPre
 ·rw[e1,cond_false] at ok;rw[cond_false];cases e2:n==wAft
  ·rw[e2,cond_false] at ok;rw[cond_false];cases e3:n==wMax
   ·rw[e3,cond_false] at ok;rw[cond_false];cases e4:n==wVer
    ·rw[e4,cond_false] at ok;cases ok
    ·rw[cond_true];refine⟨rfl,?_⟩;unfold mayL setKind;simp[hp,hf,hm1,hm2]
   ·rw[e3,cond_true] at ok;rw[cond_true];refine⟨h1,?_⟩;have hb:1≤(numN v 2 1 20).1∧(numN v 2 1 20).1≤20:=by
     unfold numN at ok⊢;simp only[Bool.and_eq_true,decide_eq_true_eq] at ok;exact⟨ok.2.2.2.1,ok.2.2.2.2⟩
    unfold mayL setMax;simp[hp,hf,hb.1,hb.2]
  ·rw[e2,cond_true] at ok;rw[cond_true];refine⟨h1,?_⟩;unfold mayL setAft;have ok:keyB v=true:=ok;simp[hp,ok,hm1,hm2]
 ·rw[e1,cond_true] at ok;rw[cond_true];refine⟨h1,?_⟩;unfold mayL setPre;have ok:keyB v=true:=ok;simp[ok,hf,hm1,hm2]
theorem go_inv:∀(l seen:List (List UInt8)) (a:AskD),linv a→(listedGo l seen a).2=true→linv (listedGo l seen a).1
 |[],_,a,h,_=>h
 |p::r,seen,a,h,ok=>by
  simp only[listedGo] at ok⊢;cases e1:(cutE p).2.2
  ·rw[e1] at ok;cases ok
  ·rw[e1,cond_true] at ok;rw[cond_true];cases e2:hasS seen (cutE p).1
   ·rw[e2,cond_false] at ok;rw[cond_false];cases e3:(lset (cutE p).1 (cutE p).2.1 a).2
    ·rw[e3] at ok;cases ok
    ·rw[e3,cond_true] at ok;rw[cond_true];exact go_inv r _ _ (lset_inv h e3) ok
   ·rw[e2] at ok;cases ok
theorem listed_inv (b:Bool) (q:List UInt8) (ok:(listedN (bAsk b) q).2=true):linv (listedN (bAsk b) q).1:=by
 have h0:linv (setMax (setKind (bAsk b) 4) 20):=⟨rfl,rfl⟩
 unfold listedN at ok⊢;cases e:q==[]
 ·rw[e,cond_false] at ok;rw[cond_false];exact go_inv _ _ _ h0 ok
 ·rw[cond_true];exact h0
theorem condsN_may (hs:HeadL) (h:(condsN hs).2.2=true):0≤(condsN hs).1∧(condsN hs).1≤2∧(bif (condsN hs).1==2 then(rRead (condsN hs).2.1).2 else(condsN hs).2.1==[])=true:=by
 unfold condsN at h⊢;cases e1:(valueN hs inmW).2
 ·rw[e1,cond_false] at h;rw[cond_false];cases e2:(valueN hs imW).2
  ·exact⟨show(0:Int)≤0 by decide,show(0:Int)≤2 by decide,rfl⟩
  ·rw[e2,cond_true] at h;rw[cond_true];refine⟨show(0:Int)≤2 by decide,show(2:Int)≤2 by decide,?_⟩;show(rRead (tagA (valueN hs imW).1).1).2=true;rw[←read_eq];have h:(tagA (valueN hs imW).1).2=true:=h;unfold tagA at h⊢;simp only[Bool.and_eq_true] at h;exact h.2.2
 ·rw[e1,cond_true] at h;rw[cond_true];cases e2:(valueN hs imW).2
  ·exact⟨show(0:Int)≤1 by decide,show(1:Int)≤2 by decide,rfl⟩
  ·rw[e2] at h;cases h
theorem verN_may (q:List UInt8) (h:(verN q).2=true):0≤(verN q).1∧(verN q).1≤1099511627776:=by
 unfold verN numN at h⊢;simp only[Bool.and_eq_true,decide_eq_true_eq] at h⊢;obtain⟨⟨_,_,_,h1,h2⟩,_⟩:=h;exact⟨by omega,h2⟩
theorem ofN_may {r:ReqW} (h:(ofN r).2=0) (hb:((ofN r).1.2.2.2.1.length:Int)≤300):mayN (ofN r).1=true:=by
 obtain⟨m,p,q,hs,b,⟨⟩⟩:=r;unfold ofN at h hb⊢;dsimp only at h hb⊢;cases e1:p==oW||p==ooW
 ·rw[e1,cond_false] at h hb;rw[cond_false];cases e2:hasPre p ooW
  ·rw[e2] at h;cases h
  ·rw[e2,cond_true] at h hb;rw[cond_true];cases e3:(m==getW||m==headW)||(m==putW||m==delW)
   ·rw[e3] at h;cases h
   ·rw[e3,cond_true] at h hb;rw[cond_true];unfold keyOut at h hb⊢;cases e4:(keyedG (kAsk (p.drop 3) (m==headW)) m q hs b).2&&(m==putW||b==[])
    ·rw[e4] at h;cases h
    ·rw[e4,cond_true] at hb;rw[cond_true];dsimp only at hb⊢;rw[Bool.and_eq_true] at e4;obtain⟨ok,ob⟩:=e4;unfold keyedG at ok hb⊢;have ek:∀b2,(kAsk (p.drop 3) b2).2.1=p.drop 3:=fun _=>rfl
     rw[ek] at ok hb⊢;cases hk:isKey (p.drop 3)
     ·rw[hk] at ok;cases ok
     ·rw[hk,cond_true] at ok hb;rw[cond_true];cases hp:m==putW
      ·rw[hp,cond_false] at ok hb;rw[hp,Bool.false_or] at ob;rw[cond_false];have hm3:(bif m==delW then(3:Int) else 1)=1∨((bif m==delW then(3:Int) else 1)=3∧(m==headW)=false):=by
        cases hd:m==delW
        ·exact .inl rfl
        ·rw[beq_iff_eq.1 hd];exact .inr ⟨rfl,by decide⟩
       have fin:∀v:Int,0≤v→v≤1099511627776→mayN (setKV (kAsk (p.drop 3) (m==headW)) (bif m==delW then 3 else 1) v)=true:=by
        intro v h0 h1;generalize (bif m==delW then(3:Int) else 1)=kk at hm3;generalize (m==headW)=hh at hm3⊢;rcases hm3 with rfl|⟨rfl,rfl⟩
        ·unfold mayN mayC mayG setKV kAsk;simp[isL,hk,h0,h1]
        ·unfold mayN mayC mayG setKV kAsk;simp[isL,hk,h0,h1]
       cases hq:q==[]
       ·rw[hq,cond_false] at ok;rw[cond_false];obtain⟨v0,v1⟩:=verN_may q ok;exact fin _ v0 v1
       ·rw[cond_true];exact fin _ (by show(0:Int)≤0;omega) (by show(0:Int)≤_;decide)
      ·rw[hp,cond_true] at ok hb;rw[cond_true];have hm:=beq_iff_eq.1 hp;subst hm;rw[show(putW==headW)=false from by decide] at hb⊢;have hb:(b.length:Int)≤300:=hb;have ok:((condsN hs).2.2&&q==[])=true:=ok;rw[Bool.and_eq_true] at ok;obtain⟨c0,c2,ct⟩:=condsN_may hs ok.1;unfold mayN mayC mayP setPut kAsk;simp only[]
       generalize (condsN hs).1=c at c0 c2 ct⊢;generalize (condsN hs).2.1=t at ct⊢;rw[ct,hk,decide_eq_true hb,decide_eq_true c0,decide_eq_true c2];rfl
 ·rw[e1,cond_true] at h hb;rw[cond_true];cases e2:m==getW||m==headW
  ·rw[e2] at h;cases h
  ·rw[e2,cond_true] at h hb;rw[cond_true];unfold listOut at h hb⊢;cases e3:(listedN (bAsk (m==headW)) q).2&&b==[]
   ·rw[e3] at h;cases h
   ·rw[cond_true];rw[Bool.and_eq_true] at e3;obtain⟨l1,l2⟩:=listed_inv (m==headW) q e3.1;unfold mayN;dsimp only;rw[l1,cond_true,l2]
theorem request_ok (a:AskD):requestN a=bif mayN a then(reqR a,true) else(zReq,false):=by
 unfold requestN outR;cases h:mayN a
 ·rw[cond_false];cases h2:(ofN (reqR a)).2==0&&(eqA (ofN (reqR a)).1 a&&decide ((a.2.2.2.1.length:Int)≤300))
  ·rfl
  ·rw[Bool.and_eq_true,Bool.and_eq_true,beq_iff_eq,eqA_iff,decide_eq_true_eq] at h2;obtain⟨z,e,hb⟩:=h2;have:=ofN_may (r:=reqR a) z (by rw[e];exact hb);rw[e,h] at this;cases this
 ·obtain⟨e,hb⟩:=ofN_req h;rw[e,decide_eq_true hb];rw[show eqA a a=true from eqA_iff.2 rfl];rfl
end Nice
namespace Nice
open Go Go.Eng
abbrev fN (n:Int):Nat:=FloatKind.f64.nearest n
end Nice
