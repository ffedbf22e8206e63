/-
  Part of the proof. No condition.
-/
import Derived.Test.YtldllfocpadkeaaGreatDoorG1
import Derived.Lib.AtoiAllCases
noncomputable section
namespace Go.Proofs.YtldllfocpadkeaaGreatDoor
open Go Go.Eng Nice
set_option maxRecDepth 1000000
abbrev shfirst:List (Nat×List (Nat×Sh)):=[(3,[(0,(.one .sym)),(2,(.obj [.sym,.sym,.sym,.any,.sym])),(3,(.one .sym)),(4,(.one .sym)),(5,(.obj [.sym,.sym,.sym,.any,.sym])),(6,(.one .sym))]),(13,[(0,(.one .sym)),(2,(.obj [.sym,.sym,.sym,.any,.sym])),(3,(.one .sym)),(4,(.one .sym)),(5,(.obj [.sym,.sym,.sym,.any,.sym])),(6,(.one .sym)),(7,(.one .sym)),(8,(.one .sym))]),(25,[(0,(.one .sym)),(2,(.obj [.sym,.sym,.sym,.any,.sym])),(3,(.one .sym)),(4,(.one .sym)),(5,(.obj [.sym,.sym,.sym,.any,.sym])),(6,(.one .sym)),(9,(.one .sym)),(10,(.one .sym))])]
def hfirst_0 (n:Nat) (t0 t2_0 t2_1 t2_2 t2_4:L8) (t3:Int) (t4:Bool) (t5_0 t5_1 t5_2 t5_4:L8) (t6:Int):Option ((sigFi).root.Den×DenO (sigFi).rs):=rHO Tryz.prog (envS []) (shOf shfirst) Tryz.f118 (sigFi) [] n 0 [(0,sy (.string (bs t0))),(2,.pointer (some ⟨10,0,none⟩)),(3,sy (.int .i64 t3)),(4,.bool t4),(5,.pointer (some ⟨11,0,none⟩)),(6,sy (.int .i64 t6))] [.row [sy (.string (bs t2_0)),sy (.string (bs t2_1)),sy (.string (bs t2_2)),Value.slice none 0 0,sy (.string (bs t2_4))] 62 false,.row [sy (.string (bs t5_0)),sy (.string (bs t5_1)),sy (.string (bs t5_2)),Value.slice none 0 0,sy (.string (bs t5_4))] 62 false]
def hfirst_1 (n:Nat) (t0 t2_0 t2_1 t2_2 t2_4:L8) (t3:Int) (t4:Bool) (t5_0 t5_1 t5_2 t5_4:L8) (t6 t7 t8:Int):Option ((sigFi).root.Den×DenO (sigFi).rs):=rHO Tryz.prog (envS []) (shOf shfirst) Tryz.f118 (sigFi) [] n 1 [(0,sy (.string (bs t0))),(2,.pointer (some ⟨10,0,none⟩)),(3,sy (.int .i64 t3)),(4,.bool t4),(5,.pointer (some ⟨11,0,none⟩)),(6,sy (.int .i64 t6)),(7,sy (.int .i64 t7)),(8,sy (.int .i64 t8))] [.row [sy (.string (bs t2_0)),sy (.string (bs t2_1)),sy (.string (bs t2_2)),Value.slice none 0 0,sy (.string (bs t2_4))] 62 false,.row [sy (.string (bs t5_0)),sy (.string (bs t5_1)),sy (.string (bs t5_2)),Value.slice none 0 0,sy (.string (bs t5_4))] 62 false]
def hfirst_2 (n:Nat) (t0 t2_0 t2_1 t2_2 t2_4:L8) (t3:Int) (t4:Bool) (t5_0 t5_1 t5_2 t5_4:L8) (t6:Int) (t9:L8) (t10:Int):Option ((sigFi).root.Den×DenO (sigFi).rs):=rHO Tryz.prog (envS []) (shOf shfirst) Tryz.f118 (sigFi) [] n 2 [(0,sy (.string (bs t0))),(2,.pointer (some ⟨10,0,none⟩)),(3,sy (.int .i64 t3)),(4,.bool t4),(5,.pointer (some ⟨11,0,none⟩)),(6,sy (.int .i64 t6)),(9,sy (.string (bs t9))),(10,sy (.int .i64 t10))] [.row [sy (.string (bs t2_0)),sy (.string (bs t2_1)),sy (.string (bs t2_2)),Value.slice none 0 0,sy (.string (bs t2_4))] 62 false,.row [sy (.string (bs t5_0)),sy (.string (bs t5_1)),sy (.string (bs t5_2)),Value.slice none 0 0,sy (.string (bs t5_4))] 62 false]
def ofirst (x:(sigFi).root.Den) (y:DenO (sigFi).ts):Option ((sigFi).root.Den×DenO (sigFi).rs):=fOO Tryz.prog (envS []) (shOf shfirst) Tryz.f118 (sigFi) x y
theorem efirst_g (N:Nat) (s:L8):fOON Tryz.prog (envS []) (shOf shfirst) Tryz.f118 (sigFi) N () (s,())=
 (hfirst_0 N (s) ([]) ([]) ([]) ([]) ((0:Int)) (false) ([]) ([]) ([]) ([]) ((0:Int))):=by kernel_rfl
theorem ofirst_g (x:(sigFi).root.Den) (y:DenO (sigFi).ts):ofirst x y=fOON Tryz.prog (envS []) (shOf shfirst) Tryz.f118 (sigFi) heads0 x y:=rfl
theorem efirst_0 (n:Nat) (t0 t2_0 t2_1 t2_2 t2_4:L8) (t3:Int) (t4:Bool) (t5_0 t5_1 t5_2 t5_4:L8) (t6:Int) {Qb}[Qb':QA (List.take t6.toNat t0,t5_1,t5_2,[],t5_4,()) Qb] {Qc}[Qc':QA (↑(t0.getD t6.toNat 0).toNat:Int) Qc] {Qd}[Qd':QA (some ((),Qb,t6,false,())) Qd] {Qa}[Qa':QA (bif t6==(↑t0.length:Int) then Qd else (bif t6==0 then Qd else (bif Qc !=32 then (gd [decide (0<=t6),decide (t6<t0.length)] Qd) else (gd [decide (inK .i64 (t6+1)),decide (0<=t6),decide (t6<t0.length)] (bif t6+1==(↑t0.length:Int) then (some ((),Qb,t6+1,false,())) else (bif (↑(t0.getD (t6+1).toNat 0).toNat:Int) !=47 then (gd [decide (0<=t6+1),decide (t6+1<t0.length)] (some ((),Qb,t6+1,false,()))) else (gd [decide (0<=t6+1),decide (t6+1<t0.length)] (hfirst_1 n t0 t2_0 t2_1 t2_2 t2_4 t3 t4 (List.take t6.toNat t0) t5_1 t5_2 t5_4 (t6+1) (t6+1) (Int.negSucc 0))))))))) Qa] {Qe}[Qe':QA (gd [decide (0<=t6),decide (t6<=t0.length)] Qa) Qe]:hfirst_0 (n+1) t0 t2_0 t2_1 t2_2 t2_4 t3 t4 t5_0 t5_1 t5_2 t5_4 t6= (bif decide (t6<t0.length) then (bif decide (t6<10) then (bif decide (Qc>=65) then (bif decide (Qc<=90) then (gd [decide (inK .i64 (t6+1)),decide (0<=t6),decide (t6<t0.length),decide (0<=t6),decide (t6<t0.length)] (hfirst_0 n t0 t2_0 t2_1 t2_2 t2_4 t3 t4 t5_0 t5_1 t5_2 t5_4 (t6+1))) else (gd [decide (0<=t6),decide (t6<=t0.length),decide (0<=t6),decide (t6<t0.length),decide (0<=t6),decide (t6<t0.length)] Qa)) else (gd [decide (0<=t6),decide (t6<=t0.length),decide (0<=t6),decide (t6<t0.length)] Qa)) else Qe) else Qe):=by obtain ⟨rfl⟩:=Qe';obtain ⟨rfl⟩:=Qa';obtain ⟨rfl⟩:=Qd';obtain ⟨rfl⟩:=Qc';obtain ⟨rfl⟩:=Qb';kernel_rfl
theorem efirst_1 (n:Nat) (t0 t2_0 t2_1 t2_2 t2_4:L8) (t3:Int) (t4:Bool) (t5_0 t5_1 t5_2 t5_4:L8) (t6 t7 t8:Int) {Qb}[Qb':QA (↑(t0.getD t6.toNat 0).toNat:Int) Qb] {Qg}[Qg':QA (List.take t6.toNat t0) Qg] {Qd}[Qd':QA (some ((),(t5_0,List.drop t7.toNat (List.take t8.toNat t0),List.drop (t8+1).toNat Qg,[],t5_4,()),t6,false,())) Qd] {Qe}[Qe':QA (some ((),(t5_0,List.drop t7.toNat Qg,t5_2,[],t5_4,()),t6,false,())) Qe] {Qh}[Qh':QA (hfirst_2 n t0 t2_0 t2_1 t2_2 t2_4 t3 t4 t5_0) Qh] {Qa}[Qa':QA (bif decide (t8>=0) then (gd [decide (0<=t8+1),decide (t8+1<=t6),decide (t6<=t0.length),decide (inK .i64 (t8+1)),decide (0<=t7),decide (t7<=t8),decide (t8<=t0.length)] (bif t6==(↑t0.length:Int) then Qd else (bif Qb !=32 then (gd [decide (0<=t6),decide (t6<t0.length)] Qd) else (gd [decide (inK .i64 (t6+1)),decide (0<=t6),decide (t6<t0.length)] (Qh (List.drop t7.toNat (List.take t8.toNat t0)) (List.drop (t8+1).toNat Qg) t5_4 (t6+1) ([72,84,84,80,47,49,46,49]) ((0:Int))))))) else (bif t6==(↑t0.length:Int) then Qe else (bif Qb !=32 then (gd [decide (0<=t6),decide (t6<t0.length)] Qe) else (gd [decide (inK .i64 (t6+1)),decide (0<=t6),decide (t6<t0.length)] (Qh (List.drop t7.toNat Qg) t5_2 t5_4 (t6+1) ([72,84,84,80,47,49,46,49]) ((0:Int))))))) Qa] {Qf}[Qf':QA (hfirst_1 n t0 t2_0 t2_1 t2_2 t2_4 t3 t4 t5_0 t5_1 t5_2 t5_4 (t6+1) t7) Qf] {Qc}[Qc':QA (gd [decide (inK .i64 (t6+1)),decide (0<=t6),decide (t6<t0.length)] (Qf t8)) Qc]:hfirst_1 (n+1) t0 t2_0 t2_1 t2_2 t2_4 t3 t4 t5_0 t5_1 t5_2 t5_4 t6 t7 t8= (bif decide (t6<t0.length) then (bif decide (Qb>=33) then (bif decide (Qb<=126) then (bif Qb !=35 then (gd [decide (0<=t6),decide (t6<t0.length),decide (0<=t6),decide (t6<t0.length),decide (0<=t6),decide (t6<t0.length)] (bif Qb==63 then (bif decide (t8<0) then (gd [decide (inK .i64 (t6+1)),decide (0<=t6),decide (t6<t0.length)] (Qf t6)) else Qc) else Qc)) else (gd [decide (0<=t7),decide (t7<=t6),decide (t6<=t0.length),decide (0<=t6),decide (t6<t0.length),decide (0<=t6),decide (t6<t0.length),decide (0<=t6),decide (t6<t0.length)] Qa)) else (gd [decide (0<=t7),decide (t7<=t6),decide (t6<=t0.length),decide (0<=t6),decide (t6<t0.length),decide (0<=t6),decide (t6<t0.length)] Qa)) else (gd [decide (0<=t7),decide (t7<=t6),decide (t6<=t0.length),decide (0<=t6),decide (t6<t0.length)] Qa)) else (gd [decide (0<=t7),decide (t7<=t6),decide (t6<=t0.length)] Qa)):=by obtain ⟨rfl⟩:=Qc';obtain ⟨rfl⟩:=Qf';obtain ⟨rfl⟩:=Qa';obtain ⟨rfl⟩:=Qh';obtain ⟨rfl⟩:=Qe';obtain ⟨rfl⟩:=Qd';obtain ⟨rfl⟩:=Qg';obtain ⟨rfl⟩:=Qb';kernel_rfl
theorem efirst_2 (n:Nat) (t0 t2_0 t2_1 t2_2 t2_4:L8) (t3:Int) (t4:Bool) (t5_0 t5_1 t5_2 t5_4:L8) (t6:Int) (t9:L8) (t10:Int) {Qa}[Qa':QA (some ((),(t5_0,t5_1,t5_2,[],t5_4,()),t6,false,())) Qa]:hfirst_2 (n+1) t0 t2_0 t2_1 t2_2 t2_4 t3 t4 t5_0 t5_1 t5_2 t5_4 t6 t9 t10= (bif decide (t10<t9.length) then (bif t6==(↑t0.length:Int) then Qa else (bif (↑(t0.getD t6.toNat 0).toNat:Int) !=(↑(t9.getD t10.toNat 0).toNat:Int) then (gd [decide (0<=t10),decide (t10<t9.length),decide (0<=t6),decide (t6<t0.length)] Qa) else (gd [decide (inK .i64 (t10+1)),decide (inK .i64 (t6+1)),decide (0<=t10),decide (t10<t9.length),decide (0<=t6),decide (t6<t0.length)] (hfirst_2 n t0 t2_0 t2_1 t2_2 t2_4 t3 t4 t5_0 t5_1 t5_2 t5_4 (t6+1) t9 (t10+1))))) else (bif t6==(↑t0.length:Int) then (some ((),(t5_0,t5_1,t5_2,[],t5_4,()),t6,true,())) else Qa)):=by obtain ⟨rfl⟩:=Qa';kernel_rfl
def firstP:(sigFi).root.Den->DenO (sigFi).ts->Bool:=hid λx y=>(ofirst x y).isSome
def firstN:(sigFi).root.Den->DenO (sigFi).ts->(sigFi).root.Den×DenO (sigFi).rs:=hid λx y=>(ofirst x y).getD ((sigFi).root.dflt,dfltO (sigFi).rs)
theorem first_hid {x:(sigFi).root.Den} {y:DenO (sigFi).ts} {z:(sigFi).root.Den×DenO (sigFi).rs} (h:ofirst x y=some z):firstP x y=true/\firstN x y=z:=by
 unfold firstP firstN;rw[hid_eq,hid_eq];simp only[h];exact⟨rfl,rfl⟩
def firstS:OSpec:=niceO sigFi firstP firstN
abbrev shhead:List (Nat×List (Nat×Sh)):=[(2,[(0,(.one .sym)),(2,(.obj [.sym,.sym])),(3,(.one .sym)),(4,(.one .sym)),(5,(.one .sym))]),(9,[(0,(.one .sym)),(2,(.obj [.sym,.sym])),(3,(.one .sym)),(4,(.one .sym)),(5,(.one .sym)),(6,(.obj [.sym,.sym])),(7,(.one .sym))]),(12,[(0,(.one .sym)),(2,(.obj [.sym,.sym])),(3,(.one .sym)),(4,(.one .sym)),(5,(.one .sym)),(6,(.obj [.sym,.sym])),(7,(.one .sym)),(8,(.one .sym))]),(14,[(0,(.one .sym)),(2,(.obj [.sym,.sym])),(3,(.one .sym)),(4,(.one .sym)),(5,(.one .sym)),(6,(.obj [.sym,.sym])),(7,(.one .sym)),(8,(.one .sym))])]
def hhead_0 (n:Nat) (t0 t2_0 t2_1:L8) (t3:Int) (t4:Bool) (t5:Int):Option (DenL [HeadT,.int .i64,.bool]):=rH Tryz.prog (envS [(160,letS),(123,digS)]) (shOf shhead) Tryz.f119 [HeadT,.int .i64,.bool] n 0 [(0,sy (.string (bs t0))),(2,.pointer (some ⟨10,0,none⟩)),(3,sy (.int .i64 t3)),(4,.bool t4),(5,sy (.int .i64 t5))] [.row [sy (.string (bs t2_0)),sy (.string (bs t2_1))] 101 false]
def hhead_1 (n:Nat) (t0 t2_0 t2_1:L8) (t3:Int) (t4:Bool) (t5:Int) (t6_0 t6_1:L8) (t7:Int):Option (DenL [HeadT,.int .i64,.bool]):=rH Tryz.prog (envS [(160,letS),(123,digS)]) (shOf shhead) Tryz.f119 [HeadT,.int .i64,.bool] n 1 [(0,sy (.string (bs t0))),(2,.pointer (some ⟨10,0,none⟩)),(3,sy (.int .i64 t3)),(4,.bool t4),(5,sy (.int .i64 t5)),(6,.pointer (some ⟨11,0,none⟩)),(7,sy (.int .i64 t7))] [.row [sy (.string (bs t2_0)),sy (.string (bs t2_1))] 101 false,.row [sy (.string (bs t6_0)),sy (.string (bs t6_1))] 101 false]
def hhead_2 (n:Nat) (t0 t2_0 t2_1:L8) (t3:Int) (t4:Bool) (t5:Int) (t6_0 t6_1:L8) (t7 t8:Int):Option (DenL [HeadT,.int .i64,.bool]):=rH Tryz.prog (envS [(160,letS),(123,digS)]) (shOf shhead) Tryz.f119 [HeadT,.int .i64,.bool] n 2 [(0,sy (.string (bs t0))),(2,.pointer (some ⟨10,0,none⟩)),(3,sy (.int .i64 t3)),(4,.bool t4),(5,sy (.int .i64 t5)),(6,.pointer (some ⟨11,0,none⟩)),(7,sy (.int .i64 t7)),(8,sy (.int .i64 t8))] [.row [sy (.string (bs t2_0)),sy (.string (bs t2_1))] 101 false,.row [sy (.string (bs t6_0)),sy (.string (bs t6_1))] 101 false]
def hhead_3 (n:Nat) (t0 t2_0 t2_1:L8) (t3:Int) (t4:Bool) (t5:Int) (t6_0 t6_1:L8) (t7 t8:Int):Option (DenL [HeadT,.int .i64,.bool]):=rH Tryz.prog (envS [(160,letS),(123,digS)]) (shOf shhead) Tryz.f119 [HeadT,.int .i64,.bool] n 3 [(0,sy (.string (bs t0))),(2,.pointer (some ⟨10,0,none⟩)),(3,sy (.int .i64 t3)),(4,.bool t4),(5,sy (.int .i64 t5)),(6,.pointer (some ⟨11,0,none⟩)),(7,sy (.int .i64 t7)),(8,sy (.int .i64 t8))] [.row [sy (.string (bs t2_0)),sy (.string (bs t2_1))] 101 false,.row [sy (.string (bs t6_0)),sy (.string (bs t6_1))] 101 false]
def ohead (x:DenL [.str]):Option (DenL [HeadT,.int .i64,.bool]):=fO Tryz.prog (envS [(160,letS),(123,digS)]) (shOf shhead) Tryz.f119 [.str] [HeadT,.int .i64,.bool] x
theorem ehead_g (N:Nat) (s:L8):fON Tryz.prog (envS [(160,letS),(123,digS)]) (shOf shhead) Tryz.f119 [.str] [HeadT,.int .i64,.bool] N (s,())=
 (hhead_0 N (s) ([]) ([]) ((0:Int)) (false) ((0:Int))):=by kernel_rfl
theorem ohead_g (x:DenL [.str]):ohead x=fON Tryz.prog (envS [(160,letS),(123,digS)]) (shOf shhead) Tryz.f119 [.str] [HeadT,.int .i64,.bool] heads0 x:=rfl
theorem ehead_0 (n:Nat) (t0 t2_0 t2_1:L8) (t3:Int) (t4:Bool) (t5:Int) {Qb}[Qb':QA (↑(t0.getD t5.toNat 0).toNat:Int) Qb] {Qc}[Qc':QA (some ((List.take t5.toNat t0,[],()),t5,false,())) Qc] {Qa}[Qa':QA (bif t5==(↑t0.length:Int) then Qc else (bif t5==0 then Qc else (bif Qb !=58 then (gd [decide (0<=t5),decide (t5<t0.length)] Qc) else (gd [decide (inK .i64 (t5+1)),decide (0<=t5),decide (t5<t0.length)] (hhead_1 n t0 t2_0 t2_1 t3 t4 (t5+1) (List.take t5.toNat t0) ([]) (t5+1)))))) Qa] {Qd}[Qd':QA (hhead_0 n t0 t2_0 t2_1 t3 t4 (t5+1)) Qd]:hhead_0 (n+1) t0 t2_0 t2_1 t3 t4 t5= (bif decide (t5<t0.length) then (bif isLet (UInt8.ofNat Qb.toNat) then (gd [decide (inK .i64 (t5+1)),decide (inK .u8 Qb),decide (0<=t5),decide (t5<t0.length)] Qd) else (bif isDig (UInt8.ofNat Qb.toNat) then (gd [decide (inK .i64 (t5+1)),decide (inK .u8 Qb),decide (0<=t5),decide (t5<t0.length),decide (inK .u8 Qb),decide (0<=t5),decide (t5<t0.length)] Qd) else (bif Qb==45 then (gd [decide (inK .i64 (t5+1)),decide (0<=t5),decide (t5<t0.length),decide (inK .u8 Qb),decide (0<=t5),decide (t5<t0.length),decide (inK .u8 Qb),decide (0<=t5),decide (t5<t0.length)] Qd) else (gd [decide (0<=t5),decide (t5<=t0.length),decide (0<=t5),decide (t5<t0.length),decide (inK .u8 Qb),decide (0<=t5),decide (t5<t0.length),decide (inK .u8 Qb),decide (0<=t5),decide (t5<t0.length)] Qa)))) else (gd [decide (0<=t5),decide (t5<=t0.length)] Qa)):=by obtain ⟨rfl⟩:=Qd';obtain ⟨rfl⟩:=Qa';obtain ⟨rfl⟩:=Qc';obtain ⟨rfl⟩:=Qb';kernel_rfl
theorem ehead_1 (n:Nat) (t0 t2_0 t2_1:L8) (t3:Int) (t4:Bool) (t5:Int) (t6_0 t6_1:L8) (t7:Int) {Qd}[Qd':QA (hhead_1 n t0 t2_0 t2_1 t3 t4 (t5+1) t6_0 t6_1 t7) Qd] {Qa}[Qa':QA (gd [decide (inK .i64 (t5+1)),decide (0<=t5),decide (t5<t0.length),decide (0<=t5),decide (t5<t0.length)] Qd) Qa] {Qb}[Qb':QA (↑(t0.getD t5.toNat 0).toNat:Int) Qb] {Qc}[Qc':QA (hhead_2 n t0 t2_0 t2_1 t3 t4 t5 t6_0 t6_1 t7 t5) Qc]:hhead_1 (n+1) t0 t2_0 t2_1 t3 t4 t5 t6_0 t6_1 t7= (bif decide (t5<t0.length) then (bif decide (Qb>=32) then (bif decide (Qb<=126) then Qa else (bif Qb==9 then (gd [decide (inK .i64 (t5+1)),decide (0<=t5),decide (t5<t0.length),decide (0<=t5),decide (t5<t0.length),decide (0<=t5),decide (t5<t0.length)] Qd) else (gd [decide (0<=t5),decide (t5<t0.length),decide (0<=t5),decide (t5<t0.length),decide (0<=t5),decide (t5<t0.length)] Qc))) else (bif Qb==9 then Qa else (gd [decide (0<=t5),decide (t5<t0.length),decide (0<=t5),decide (t5<t0.length)] Qc))) else Qc):=by obtain ⟨rfl⟩:=Qc';obtain ⟨rfl⟩:=Qb';obtain ⟨rfl⟩:=Qa';obtain ⟨rfl⟩:=Qd';kernel_rfl
theorem ehead_2 (n:Nat) (t0 t2_0 t2_1:L8) (t3:Int) (t4:Bool) (t5:Int) (t6_0 t6_1:L8) (t7 t8:Int) {Qa}[Qa':QA (hhead_2 n t0 t2_0 t2_1 t3 t4 t5 t6_0 t6_1 (t7+1) t8) Qa] {Qb}[Qb':QA (hhead_3 n t0 t2_0 t2_1 t3 t4 t5 t6_0 t6_1 t7 t8) Qb] {Qc}[Qc':QA (↑(t0.getD t7.toNat 0).toNat:Int) Qc]:hhead_2 (n+1) t0 t2_0 t2_1 t3 t4 t5 t6_0 t6_1 t7 t8= (bif decide (t7<t8) then (bif Qc==32 then (gd [decide (inK .i64 (t7+1)),decide (0<=t7),decide (t7<t0.length)] Qa) else (bif Qc==9 then (gd [decide (inK .i64 (t7+1)),decide (0<=t7),decide (t7<t0.length),decide (0<=t7),decide (t7<t0.length)] Qa) else (gd [decide (0<=t7),decide (t7<t0.length),decide (0<=t7),decide (t7<t0.length)] Qb))) else Qb):=by obtain ⟨rfl⟩:=Qc';obtain ⟨rfl⟩:=Qb';obtain ⟨rfl⟩:=Qa';kernel_rfl
theorem ehead_3 (n:Nat) (t0 t2_0 t2_1:L8) (t3:Int) (t4:Bool) (t5:Int) (t6_0 t6_1:L8) (t7 t8:Int) {Qb}[Qb':QA (↑t0.length:Int) Qb] {Qd}[Qd':QA (t6_0,List.drop t7.toNat (List.take t8.toNat t0),()) Qd] {Qa}[Qa':QA (bif t5==Qb then (some (Qd,t5,true,())) else (some (Qd,t5,false,()))) Qa] {Qc}[Qc':QA (hhead_3 n t0 t2_0 t2_1 t3 t4 t5 t6_0 t6_1 t7 (t8-1)) Qc] {Qe}[Qe':QA (↑(t0.getD (t8-1).toNat 0).toNat:Int) Qe]:hhead_3 (n+1) t0 t2_0 t2_1 t3 t4 t5 t6_0 t6_1 t7 t8= (bif decide (t8>t7) then (bif Qe==32 then (gd [decide (inK .i64 (t8-1)),decide (0<=t8-1),decide (t8-1<Qb),decide (inK .i64 (t8-1))] Qc) else (bif Qe==9 then (gd [decide (inK .i64 (t8-1)),decide (0<=t8-1),decide (t8-1<Qb),decide (inK .i64 (t8-1)),decide (0<=t8-1),decide (t8-1<Qb),decide (inK .i64 (t8-1))] Qc) else (gd [decide (0<=t7),decide (t7<=t8),decide (t8<=t0.length),decide (0<=t8-1),decide (t8-1<Qb),decide (inK .i64 (t8-1)),decide (0<=t8-1),decide (t8-1<Qb),decide (inK .i64 (t8-1))] Qa))) else (gd [decide (0<=t7),decide (t7<=t8),decide (t8<=t0.length)] Qa)):=by obtain ⟨rfl⟩:=Qe';obtain ⟨rfl⟩:=Qc';obtain ⟨rfl⟩:=Qa';obtain ⟨rfl⟩:=Qd';obtain ⟨rfl⟩:=Qb';kernel_rfl
def headP:DenL [.str]->Bool:=hid λx=>(ohead x).isSome
def headN:DenL [.str]->DenL [HeadT,.int .i64,.bool]:=hid λx=>(ohead x).getD (dfltL [HeadT,.int .i64,.bool])
theorem head_hid {x:DenL [.str]} {z:DenL [HeadT,.int .i64,.bool]} (h:ohead x=some z):headP x=true/\headN x=z:=by
 unfold headP headN;rw[hid_eq,hid_eq];simp only[h];exact⟨rfl,rfl⟩
def headS:PSpec:=⟨[.str],[HeadT,.int .i64,.bool],headP,headN⟩
abbrev shline:List (Nat×List (Nat×Sh)):=[(5,[(0,(.one .sym)),(1,(.one .sym)),(2,(.one .sym)),(6,(.one .sym)),(7,(.one .sym)),(8,(.one .sym)),(9,(.one .sym)),(10,(.one .sym)),(11,(.one .sym))])]
def hline_0 (n:Nat) (t0:L8) (t1:Bool) (t2:Int) (t6:L8) (t7 t8 t9 t10 t11:Int):Option (DenL [.str,.int .i64,.int .i64]):=rH Tryz.prog (envO [(119,headS)] [(118,firstS)]) (shOf shline) Tryz.f117 [.str,.int .i64,.int .i64] n 0 [(0,sy (.string (bs t0))),(1,.bool t1),(2,sy (.int .i64 t2)),(6,sy (.string (bs t6))),(7,sy (.int .i64 t7)),(8,sy (.int .i64 t8)),(9,sy (.int .i64 t9)),(10,sy (.int .i64 t10)),(11,sy (.int .i64 t11))] []
def oline (x:DenL [.str,.bool,.int .i64]):Option (DenL [.str,.int .i64,.int .i64]):=fO Tryz.prog (envO [(119,headS)] [(118,firstS)]) (shOf shline) Tryz.f117 [.str,.bool,.int .i64] [.str,.int .i64,.int .i64] x
theorem eline_g (N:Nat) (s:L8) (b:Bool) (k:Int):fON Tryz.prog (envO [(119,headS)] [(118,firstS)]) (shOf shline) Tryz.f117 [.str,.bool,.int .i64] [.str,.int .i64,.int .i64] N (s,b,k,())=
  (bif b then
 (hline_0 N (s) (b) (k) ([]) ((0:Int)) ((0:Int)) ((200:Int)) ((414:Int)) ((0:Int)))
  else
 (hline_0 N (s) (b) (k) ([]) ((0:Int)) ((0:Int)) ((120:Int)) ((431:Int)) ((0:Int)))):=by kernel_rfl
theorem oline_g (x:DenL [.str,.bool,.int .i64]):oline x=fON Tryz.prog (envO [(119,headS)] [(118,firstS)]) (shOf shline) Tryz.f117 [.str,.bool,.int .i64] [.str,.int .i64,.int .i64] heads0 x:=rfl
theorem eline_0 (n:Nat) (t0:L8) (t1:Bool) (t2:Int) (t6:L8) (t7 t8 t9 t10 t11:Int) {Qg}[Qg':QA (List.take (t11+1).toNat t0,()) Qg] {Qh}[Qh':QA (gd [decide (inK .i64 (t11+1)),decide (inK .i64 (t11+1))] (hline_0 n t0 t1 t2 t6 t7 t8 t9 t10 (t11+1))) Qh] {Qf}[Qf':QA (some ([],(0:Int),(400:Int),())) Qf] {Qk}[Qk':QA (gd [decide (inK .i64 (t11+1))] Qf) Qk] {Qc}[Qc':QA (gd [firstP () Qg,decide (0<=t11+1),decide (t11+1<=t0.length),decide (inK .i64 (t11+1))] (bif (firstN () Qg).snd.snd.fst !=t11+1 then Qk else Qh)) Qc] {Qd}[Qd':QA (gd [headP Qg,decide (0<=t11+1),decide (t11+1<=t0.length),decide (inK .i64 (t11+1))] (bif (headN Qg).snd.fst !=t11+1 then Qk else Qh)) Qd] {Qa}[Qa':QA (bif t1 then (bif (firstN () Qg).snd.snd.snd.fst then Qc else Qc) else (bif (headN Qg).snd.snd.fst then Qd else Qd)) Qa] {Ql}[Ql':QA (some ([],(0:Int),(0:Int),())) Ql] {Qb}[Qb':QA (bif t11+1==(↑t0.length:Int) then (gd [decide (inK .i64 (t11+1))] Ql) else (gd [decide (inK .i64 (t11+1))] (bif (↑(t0.getD (t11+1).toNat 0).toNat:Int) !=10 then (gd [decide (0<=t11+1),decide (t11+1<t0.length),decide (inK .i64 (t11+1))] Qf) else (gd [decide (inK .i64 (t11+2)),decide (0<=t11+1),decide (t11+1<t0.length),decide (inK .i64 (t11+1))] (some (List.take t11.toNat t0,t11+2,Int.negSucc 0,())))))) Qb] {Qe}[Qe':QA (List.take t11.toNat t0,()) Qe] {Qi}[Qi':QA (bif (firstN () Qe).snd.snd.snd.fst then (gd [firstP () Qe] Qb) else (gd [firstP () Qe] Qf)) Qi] {Qj}[Qj':QA (bif (headN Qe).snd.snd.fst then (gd [headP Qe] Qb) else (gd [headP Qe] Qf)) Qj]:hline_0 (n+1) t0 t1 t2 t6 t7 t8 t9 t10 t11= (bif decide (t11<t0.length) then (gd [decide (0<=t11),decide (t11<=t0.length)] (bif (↑(t0.getD t11.toNat 0).toNat:Int)==13 then (gd [decide (0<=t11),decide (t11<t0.length)] (bif List.take t11.toNat t0==[] then (bif t1 then Qi else (bif !List.take t11.toNat t0==[] then Qj else (bif !!t1 then Qf else Qb))) else (bif t1 then Qi else (bif !List.take t11.toNat t0==[] then Qj else Qf)))) else (gd [decide (0<=t11),decide (t11<t0.length)] (bif decide (t11>=t9) then (some ([],(0:Int),t10,())) else (bif !t1 then (bif !t1 then (bif t11==0 then (bif !t1 then (bif decide (t2>=10) then (some ([],(0:Int),(431:Int),())) else Qa) else Qa) else (bif !t1 then Qa else Qa)) else (bif !t1 then none else Qa)) else (bif !t1 then none else (bif !t1 then none else Qa))))))) else Ql):=by obtain ⟨rfl⟩:=Qj';obtain ⟨rfl⟩:=Qi';obtain ⟨rfl⟩:=Qe';obtain ⟨rfl⟩:=Qb';obtain ⟨rfl⟩:=Ql';obtain ⟨rfl⟩:=Qa';obtain ⟨rfl⟩:=Qd';obtain ⟨rfl⟩:=Qc';obtain ⟨rfl⟩:=Qk';obtain ⟨rfl⟩:=Qf';obtain ⟨rfl⟩:=Qh';obtain ⟨rfl⟩:=Qg';kernel_rfl
def lineP:DenL [.str,.bool,.int .i64]->Bool:=hid λx=>(oline x).isSome
def lineN:DenL [.str,.bool,.int .i64]->DenL [.str,.int .i64,.int .i64]:=hid λx=>(oline x).getD (dfltL [.str,.int .i64,.int .i64])
theorem line_hid {x:DenL [.str,.bool,.int .i64]} {z:DenL [.str,.int .i64,.int .i64]} (h:oline x=some z):lineP x=true/\lineN x=z:=by
 unfold lineP lineN;rw[hid_eq,hid_eq];simp only[h];exact⟨rfl,rfl⟩
def lineS:PSpec:=⟨[.str,.bool,.int .i64],[.str,.int .i64,.int .i64],lineP,lineN⟩
abbrev shone:List (Nat×List (Nat×Sh)):=[(5,[(0,(.one .sym)),(2,(.obj [.sym,.sym,.sym,.any,.sym])),(3,(.one .sym)),(4,(.one .sym)),(6,(.one .sym)),(8,(.obj [.sym,.sym,.sym,(.vec (.pair .str (.pair .str .unit)) 101),.sym]))])]
def hone_0 (n:Nat) (t0 t2_0 t2_1 t2_2 t2_4:L8) (t3 t4 t6:Int) (t8_0 t8_1 t8_2:L8) (t8_3:List (Ty.Den (.pair .str (.pair .str .unit)))) (t8_4:L8):Option ((sigOn).root.Den×DenO (sigOn).rs):=rHO Tryz.prog (envO [(117,lineS),(119,headS),(120,refLenS)] [(118,firstS)]) (shOf shone) Tryz.f69 (sigOn) [] n 0 [(0,sy (.string (bs t0))),(2,.pointer (some ⟨10,0,none⟩)),(3,sy (.int .i64 t3)),(4,sy (.int .i64 t4)),(6,sy (.int .i64 t6)),(8,.pointer (some ⟨12,0,none⟩))] [.row [sy (.string (bs t2_0)),sy (.string (bs t2_1)),sy (.string (bs t2_2)),Value.slice none 0 0,sy (.string (bs t2_4))] 62 false,.vec (.pair .str (.pair .str .unit)) t8_3 101,.row [sy (.string (bs t8_0)),sy (.string (bs t8_1)),sy (.string (bs t8_2)),dt 11,sy (.string (bs t8_4))] 62 false]
def oone (x:(sigOn).root.Den) (y:DenO (sigOn).ts):Option ((sigOn).root.Den×DenO (sigOn).rs):=fOO Tryz.prog (envO [(117,lineS),(119,headS),(120,refLenS)] [(118,firstS)]) (shOf shone) Tryz.f69 (sigOn) x y
theorem eone_g (N:Nat) (s:L8) {Qc}[Qc':QA (lineN (s,true,(0:Int),())) Qc] {Qb}[Qb':QA (firstN () (Qc.fst,())) Qb] {Qa}[Qa':QA (gd [firstP () (Qc.fst,())] (hone_0 N s ([]) ([]) ([]) ([]) ((0:Int)) ((0:Int)) (Qc.snd.fst) (Qb.snd.fst.fst) (Qb.snd.fst.snd.fst) (Qb.snd.fst.snd.snd.fst) (Qb.snd.fst.snd.snd.snd.fst) (Qb.snd.fst.snd.snd.snd.snd.fst))) Qa]:fOON Tryz.prog (envO [(117,lineS),(119,headS),(120,refLenS)] [(118,firstS)]) (shOf shone) Tryz.f69 (sigOn) N () (s,())= (gd [lineP (s,true,(0:Int),())] (bif Qc.snd.snd.fst !=Int.negSucc 0 then (some ((),([],[],[],[],[],()),(0:Int),Qc.snd.snd.fst,())) else (bif Qb.snd.snd.snd.fst then Qa else Qa))):=by obtain ⟨rfl⟩:=Qa';obtain ⟨rfl⟩:=Qb';obtain ⟨rfl⟩:=Qc';kernel_rfl
theorem oone_g (x:(sigOn).root.Den) (y:DenO (sigOn).ts):oone x y=fOON Tryz.prog (envO [(117,lineS),(119,headS),(120,refLenS)] [(118,firstS)]) (shOf shone) Tryz.f69 (sigOn) heads0 x y:=rfl
theorem eone_0 (n:Nat) (t0 t2_0 t2_1 t2_2 t2_4:L8) (t3 t4 t6:Int) (t8_0 t8_1 t8_2:L8) (t8_3:List (Ty.Den (.pair .str (.pair .str .unit)))) (t8_4:L8) {Qe}[Qe':QA (List.drop t6.toNat t0,false,(↑t8_3.length:Int),()) Qe] {Qa}[Qa':QA (lineN Qe) Qa] {Qd}[Qd':QA (t6+Qa.snd.fst) Qd] {Qh}[Qh':QA (headN (Qa.fst,())) Qh] {Qb}[Qb':QA (gd [decide ((2*(t8_3.length+1)+400)*32<=281474976710656),headP (Qa.fst,())] (hone_0 n t0 t2_0 t2_1 t2_2 t2_4 t3 t4 Qd t8_0 t8_1 t8_2 (t8_3++[(Qh.fst.fst,Qh.fst.snd.fst,())]) t8_4)) Qb] {Qc}[Qc':QA (refLen t8_3) Qc] {Qf}[Qf':QA (t6+Qa.snd.fst+Qc.fst) Qf] {Qg}[Qg':QA ([],[],[],[],[],()) Qg] {Qi}[Qi':QA (↑t0.length:Int) Qi]:hone_0 (n+1) t0 t2_0 t2_1 t2_2 t2_4 t3 t4 t6 t8_0 t8_1 t8_2 t8_3 t8_4= (gd [lineP Qe,decide (0<=t6),decide (t6<=t0.length)] (bif Qa.snd.snd.fst !=Int.negSucc 0 then (some ((),Qg,(0:Int),Qa.snd.snd.fst,())) else (gd [decide (inK .i64 Qd)] (bif Qa.fst==[] then (gd [refLenP t8_3] (bif Qc.snd !=0 then (some ((),Qg,(0:Int),Qc.snd,())) else (bif decide (Qi-Qd<Qc.fst) then (gd [decide (inK .i64 (Qi-Qd))] (some ((),Qg,(0:Int),(0:Int),()))) else (gd [decide (inK .i64 Qf),decide (0<=t6+Qa.snd.fst),decide (t6+Qa.snd.fst<=t6+Qa.snd.fst+Qc.fst),decide (t6+Qa.snd.fst+Qc.fst<=t0.length),decide (inK .i64 Qf),decide (inK .i64 (Qi-Qd))] (some ((),(t8_0,t8_1,t8_2,t8_3,List.drop Qd.toNat (List.take Qf.toNat t0),()),t6+Qa.snd.fst+Qc.fst,Int.negSucc 0,())))))) else (bif Qh.snd.snd.fst then Qb else Qb))))):=by obtain ⟨rfl⟩:=Qi';obtain ⟨rfl⟩:=Qg';obtain ⟨rfl⟩:=Qf';obtain ⟨rfl⟩:=Qc';obtain ⟨rfl⟩:=Qb';obtain ⟨rfl⟩:=Qh';obtain ⟨rfl⟩:=Qd';obtain ⟨rfl⟩:=Qa';obtain ⟨rfl⟩:=Qe';kernel_rfl
def oneP:(sigOn).root.Den->DenO (sigOn).ts->Bool:=hid λx y=>(oone x y).isSome
def oneN:(sigOn).root.Den->DenO (sigOn).ts->(sigOn).root.Den×DenO (sigOn).rs:=hid λx y=>(oone x y).getD ((sigOn).root.dflt,dfltO (sigOn).rs)
theorem one_hid {x:(sigOn).root.Den} {y:DenO (sigOn).ts} {z:(sigOn).root.Den×DenO (sigOn).rs} (h:oone x y=some z):oneP x y=true/\oneN x y=z:=by
 unfold oneP oneN;rw[hid_eq,hid_eq];simp only[h];exact⟨rfl,rfl⟩
def oneS:OSpec:=niceO sigOn oneP oneN
abbrev shrscan:List (Nat×List (Nat×Sh)):=[(2,[(0,(.one .sym)),(2,(.one .any)),(3,(.one .sym)),(4,(.one .sym)),(5,(.one (.vec ReqT 62)))])]
def hrscan_0 (n:Nat) (t0:L8) (t3:Int) (t4:Bool) (t5:List (Ty.Den ReqT)):Option (DenL [.slice ReqT,.int .i64,.bool]):=rH Tryz.prog (envO [] [(69,oneS)]) (shOf shrscan) Tryz.f29 [.slice ReqT,.int .i64,.bool] n 0 [(0,sy (.string (bs t0))),(2,Value.slice none 0 0),(3,sy (.int .i64 t3)),(4,.bool t4),(5,dt 10)] [.vec ReqT t5 62]
def orscan (x:DenL [.str]):Option (DenL [.slice ReqT,.int .i64,.bool]):=fO Tryz.prog (envO [] [(69,oneS)]) (shOf shrscan) Tryz.f29 [.str] [.slice ReqT,.int .i64,.bool] x
theorem erscan_g (N:Nat) (s:L8):fON Tryz.prog (envO [] [(69,oneS)]) (shOf shrscan) Tryz.f29 [.str] [.slice ReqT,.int .i64,.bool] N (s,())=
 (hrscan_0 N (s) ((0:Int)) (false) ([])):=by kernel_rfl
theorem orscan_g (x:DenL [.str]):orscan x=fON Tryz.prog (envO [] [(69,oneS)]) (shOf shrscan) Tryz.f29 [.str] [.slice ReqT,.int .i64,.bool] heads0 x:=rfl
theorem erscan_0 (n:Nat) (t0:L8) (t3:Int) (t4:Bool) (t5:List (Ty.Den ReqT)) {Qa}[Qa':QA (oneN () (t0,())) Qa]:hrscan_0 (n+1) t0 t3 t4 t5= (bif decide ((↑t0.length:Int)>0) then (gd [oneP () (t0,())] (bif Qa.snd.snd.snd.fst !=Int.negSucc 0 then (some (t5,Qa.snd.snd.snd.fst,false,())) else (gd [decide ((0:Int)<=Qa.snd.snd.fst),decide (Qa.snd.snd.fst<=t0.length),decide ((2*(t5.length+1)+400)*88<=281474976710656)] (hrscan_0 n (List.drop (Int.toNat Qa.snd.snd.fst) t0) t3 t4 (t5++[(Qa.snd.fst.fst,Qa.snd.fst.snd.fst,Qa.snd.fst.snd.snd.fst,Qa.snd.fst.snd.snd.snd.fst,Qa.snd.fst.snd.snd.snd.snd.fst,())]))))) else (some (t5,(0:Int),true,()))):=by obtain ⟨rfl⟩:=Qa';kernel_rfl
def rscanP:DenL [.str]->Bool:=hid λx=>(orscan x).isSome
def rscanN:DenL [.str]->DenL [.slice ReqT,.int .i64,.bool]:=hid λx=>(orscan x).getD (dfltL [.slice ReqT,.int .i64,.bool])
def rscanS:PSpec:=⟨[.str],[.slice ReqT,.int .i64,.bool],rscanP,rscanN⟩
end Go.Proofs.YtldllfocpadkeaaGreatDoor
namespace Nice
open Go Go.Eng
theorem lower_clen:lower clen=clen:=by decide
theorem heads_val:∀(l:List (L8×L8×Unit)) (v0:L8) (k0:Nat) (v:L8) (k:Nat),refHeads l v0 k0=some (v,k)->k0<=k/\(k=k0->valueN l clen=([],false)/\v=v0)/\(k=k0+1->valueN l clen=(v,true))
 |[],v0,k0,v,k,h=>by
  simp only[refHeads,Option.some.injEq,Prod.mk.injEq] at h;obtain⟨rfl,rfl⟩:=h;exact⟨Nat.le_refl _,λ_=>⟨rfl,rfl⟩,λh=>by omega⟩
 |h0::r,v0,k0,v,k,h=>by
  simp only[refHeads] at h;cases hc:lower h0.1==clen
  ·rw[hc,cond_false] at h;cases ht:lower h0.1==tenc
   ·rw[ht,cond_false] at h;have:=heads_val r v0 k0 v k h;simpa only[valueN,lower_clen,hc,cond_false] using this
   ·rw[ht] at h;cases h
  ·rw[hc,cond_true] at h;obtain⟨h1,h2, -⟩:=heads_val r h0.2.1 (k0+1) v k h;refine⟨by omega,λe=>by omega,λe=> ?_⟩;simp only[valueN,lower_clen,hc,cond_true];rw[(h2 e).2]
theorem parse_dig:∀(s:L8) (a:Nat),allDig s=true->a*10^s.length+10^s.length<=10^18->Lib.parseUint10 a s=.ok (s.foldl (λn c=>n*10+(c.toNat-48)) a)
 |[],a,_,_=>rfl
 |c::r,a,h,hb=>by
  simp only[allDig,List.all_cons,Bool.and_eq_true] at h;have hd:=isDig_iff.1 h.1;have hp:1<=10^r.length:=Nat.one_le_pow _ _ (by decide);have hb':(a*10+10)*10^r.length<=10^18:=by
   rw[List.length_cons,Nat.pow_succ] at hb;have e:(a*10+10)*10^r.length=a*(10^r.length*10)+10^r.length*10:=by
    rw[Nat.add_mul,Nat.mul_assoc,Nat.mul_comm 10 (10^r.length)]
   omega
  have ha:a*10+10<=10^18:=Nat.le_trans (Nat.le_mul_of_pos_right _ hp) hb';simp only[Lib.parseUint10];rw[if_pos hd,if_neg (by omega),if_neg (by omega)];rw[parse_dig r _ h.2 ?_]
  ·rfl
  ·refine Nat.le_trans ?_ hb';rw[<-Nat.succ_mul];exact Nat.mul_le_mul_right _ (by omega)
theorem atoi_dig {s:L8} (h:allDig s=true) (h1:1<=s.length) (h6:s.length<=6):atoiN s=((numV s:Int),true):=by
 cases s with
 |nil=>simp at h1
 |cons c r=>
  have hd:48<=c.toNat/\c.toNat<=57:=by
   simp only[allDig,List.all_cons,Bool.and_eq_true] at h;exact isDig_iff.1 h.1
  have hp:(10:Nat)^(c::r).length<=10^6:=Nat.pow_le_pow_right (by decide) h6;have e:Lib.parseMag (c::r)=.ok (numV (c::r)):=by
   unfold Lib.parseMag;rw[if_neg (by simp),parse_dig (c::r) 0 h (by omega)];rfl
  have hlt:numV (c::r)<10^(c::r).length:=by
   have key:∀(s:L8) (a:Nat),allDig s=true->s.foldl (λn c=>n*10+(c.toNat-48)) a<(a+1)*10^s.length:=by
    intro s
    induction s with
    |nil=>intro a _;simp
    |cons c s ih=>
     intro a h;simp only[allDig,List.all_cons,Bool.and_eq_true] at h;have hd:=isDig_iff.1 h.1;refine Nat.lt_of_lt_of_le (ih (a*10+(c.toNat-48)) h.2) ?_;rw[List.length_cons,Nat.pow_succ,Nat.mul_comm (10^s.length) 10,<-Nat.mul_assoc];exact Nat.mul_le_mul_right _ (by omega)
   have:=key (c::r) 0 h;simpa[numV] using this
  unfold atoiN;rw[Lib.atoiAll_plain c r (by omega) (by omega),e];simp only[Lib.signless];rw[if_neg (by omega)]
theorem len_law (l:List (L8×L8×Unit)) (h:(refLen l).2≠400):scanLen l=(refLen l).1:=by
 unfold refLen at h⊢;cases hh:refHeads l [] 0 with
 |none=>rw[hh] at h;exact absurd rfl h
 |some x=>
  obtain⟨v,k⟩:=x;rw[hh] at h;obtain⟨-,h0,h1⟩:=heads_val l [] 0 v k hh;simp only[refLenOut] at h⊢;by_cases hk:k=0
  ·rw[if_pos hk];unfold scanLen;rw[(h0 hk).1];decide
  ·rw[if_neg hk] at h⊢;by_cases hb:1<k\/(refNum v 6).2=false
   ·rw[if_pos hb] at h;exact absurd rfl h
   ·rw[if_neg hb];have hk1:k=1:=by omega
    have hv:=h1 hk1;have ho:(refNum v 6).2=true:=by cases hx:(refNum v 6).2;exact absurd (.inr hx) hb;rfl
    unfold scanLen;rw[hv];unfold refNum at ho⊢;cases hd:(allDig v&&decide ((v.length:Int)<=6))
    ·rw[hd] at ho;cases ho
    ·rw[hd] at ho;simp only[cond_true,decide_eq_true_eq] at ho;rw[Bool.and_eq_true,decide_eq_true_eq] at hd;have ha:=atoi_dig hd.1 ho (by omega);have h6:v.length<=6:=by omega
     have e:scanNum v=((numV v:Int),true):=by unfold scanNum;rw[hd.1,cond_true,ha];simp[h6]
     rw[e];simp only[cond_true]
     split<;>rfl
open Go Go.Eng
theorem num_ok (v:L8):(refNum v 6).2=(scanNum v).2:=by
 unfold refNum scanNum;cases hd:allDig v
 ·rfl
 ·rw[Bool.true_and,cond_true];by_cases h6:v.length<=6
  ·rw[show decide ((v.length:Int)<=6)=true from decide_eq_true (by omega),cond_true,show decide (v.length<=6)=true from decide_eq_true h6,Bool.and_true];by_cases h1:1<=v.length
   ·rw[atoi_dig hd h1 h6];exact decide_eq_true h1
   ·have:v=[]:=List.length_eq_zero_iff.1 (by omega);subst this;rfl
  ·rw[show decide ((v.length:Int)<=6)=false from decide_eq_false (by omega),cond_false,show decide (v.length<=6)=false from decide_eq_false h6,Bool.and_false]
def mHeads:List HeadD->Nat->Option Nat
 |[],k=>some k
 |h::r,k=>bif lower h.1==tenc then none else bif lower h.1==clen then(bif (scanNum h.2.1).2 then mHeads r (k+1) else none) else mHeads r k
def mOut (hs:List HeadD):Int:=match mHeads hs 0 with
 |none=>400
 |some k=>if 1<k then 400 else if scanLen hs>300 then 413 else 0
theorem cl_te (n:L8) (h:(n==clen)=true):(n==tenc)=false:=by
 rw[beq_iff_eq] at h;subst h;decide
theorem heads_rel:∀(l:List HeadD) (v0:L8) (k0:Nat),
  (refHeads l v0 k0=none->mHeads l k0=none)/\∀v k,refHeads l v0 k0=some (v,k)->(mHeads l k0=none->k0+1<=k/\(k=k0+1->(scanNum v).2=false))/\∀k',mHeads l k0=some k'->k'=k/\(k=k0+1->(scanNum v).2=true)
 |[],v0,k0=>by
  refine⟨λh=>by simp[refHeads] at h,λv k h=> ?_⟩;simp only[refHeads,Option.some.injEq,Prod.mk.injEq] at h;obtain⟨rfl,rfl⟩:=h;exact⟨λh=>by simp[mHeads] at h,λk' h=>by simp only[mHeads,Option.some.injEq] at h;exact⟨h.symm,λh=>by omega⟩⟩
 |h::r,v0,k0=>by
  simp only[refHeads,mHeads];cases hc:lower h.1==clen
  ·rw[cond_false];cases ht:lower h.1==tenc
   ·simp only[cond_false];exact heads_rel r v0 k0
   ·simp only[cond_true];exact⟨λ_=>trivial,λv k h=>by cases h⟩
  ·rw[cond_true,cl_te _ hc,cond_false,cond_true];obtain⟨i1,i2⟩:=heads_rel r h.2.1 (k0+1);have hv:=λv k hh=>heads_val r h.2.1 (k0+1) v k hh
   cases hg:(scanNum h.2.1).2
   ·rw[cond_false];refine⟨λ_=>rfl,λv k hh=>⟨λ_=> ?_,λk' h=>by cases h⟩⟩;obtain⟨g1,g2, -⟩:=hv v k hh;exact⟨g1,λe=>by rw[(g2 e).2];exact hg⟩
   ·rw[cond_true];refine⟨i1,λv k hh=> ?_⟩;obtain⟨g1,g2, -⟩:=hv v k hh;obtain⟨j1,j2⟩:=i2 v k hh;refine⟨λhm=>⟨g1,λe=>by have:=(j1 hm).1;omega⟩,λk' hm=>⟨(j2 k' hm).1,λe=>by rw[(g2 e).2];exact hg⟩⟩
theorem mOut_ref (hs:List HeadD):mOut hs=(refLen hs).2/\((refLen hs).2≠400->scanLen hs=(refLen hs).1):=by
 refine⟨?_,len_law hs⟩;have hl:=len_law hs;obtain⟨h1,h2⟩:=heads_rel hs [] 0;unfold mOut;unfold refLen at hl⊢;cases hr:refHeads hs [] 0 with
 |none=>rw[h1 hr];rfl
 |some x=>
  obtain⟨v,k⟩:=x;obtain⟨a1,a2⟩:=h2 v k hr;rw[hr] at hl;simp only[refLenOut] at hl⊢;cases hm:mHeads hs 0 with
  |none=>
   obtain⟨b1,b2⟩:=a1 hm;have hb:1<k\/(refNum v 6).2=false:=by
    by_cases hk:k=1
    ·exact .inr (by rw[num_ok];exact b2 hk)
    ·exact .inl (by omega)
   rw[if_neg (show ¬k=0 by omega),if_pos hb]
  |some k'=>
   obtain⟨rfl,b2⟩:=a2 k' hm;simp only;by_cases h0:k'=0
   ·subst h0;rw[if_pos rfl] at hl⊢;rw[if_neg (by omega),hl (by decide),if_neg (by decide)]
   ·rw[if_neg h0] at hl⊢;by_cases hk:1<k'
    ·rw[if_pos hk,if_pos (.inl hk)]
    ·have hk1:k'=0+1:=by omega
     have hg:¬(1<k'\/(refNum v 6).2=false):=by
      rw[num_ok,b2 hk1];intro h;rcases h with h|h
      ·exact hk h
      ·cases h
     rw[if_neg hk,if_neg hg];rw[if_neg hg] at hl;by_cases h3:(refNum v 6).1>300
     ·rw[if_pos h3] at hl⊢;rw[hl (by show(413:Int)≠400;decide),if_pos h3]
     ·rw[if_neg h3] at hl⊢;rw[hl (by show(0:Int)≠400;decide),if_neg h3]
open Go Go.Eng
theorem cT {α:Type} (a b:α):(bif true then a else b)=a:=Eq.trans (cond_true a b) rfl
theorem cF {α:Type} (a b:α):(bif false then a else b)=b:=Eq.trans (cond_false a b) rfl
theorem gN {α:Type} (r:Option α):gd [] r=r:=Eq.trans gd_nil rfl
theorem ceT {α:Type} {x y:Int} {a b:α} (h:x=y):(bif x==y then a else b)=a:=by simp[h]
theorem ceF {α:Type} {x y:Int} {a b:α} (h:x≠y):(bif x==y then a else b)=b:=by rw[beq_eq_false_iff_ne.2 h];rfl
theorem cnT {α:Type} {x y:Int} {a b:α} (h:x≠y):(bif x !=y then a else b)=a:=by rw[show(x !=y)=true by simpa using h];rfl
theorem cnF {α:Type} {x y:Int} {a b:α} (h:x=y):(bif x !=y then a else b)=b:=by simp[h]
def verB:L8:=[72,84,84,80,47,49,46,49]
def hdN (su li at':Int) (tx m p q:L8) (hs:List HeadD) (b:L8) (le:Int) (ou:List ReqD):ScanD×Int:=
 match mHeads hs 0 with
 |none=>((8,su,li,at',tx,(m,p,q,hs,b,()),le,ou,()),400)
 |some k=>
  if 1<k then((8,su,li,at',tx,(m,p,q,hs,b,()),le,ou,()),400)
  else if scanLen hs>300 then((8,su,li,at',tx,(m,p,q,hs,b,()),scanLen hs,ou,()),413)
  else if scanLen hs=0 then((0,su,li,at',tx,([],[],[],[],[],()),scanLen hs,ou++[(m,p,q,hs,b,())],()),0)
  else((9,su,li,at',tx,(m,p,q,hs,b,()),scanLen hs,ou,()),0)
def lnN (st su li at':Int) (tx m p q:L8) (hs:List HeadD) (b:L8) (le:Int) (ou:List ReqD) (c:UInt8):ScanD×Int:=
 if st=4\/st=7 then
  (if c.toNat=10 then((5,su,0,at',tx,(m,p,q,hs,b,()),le,ou,()),0) else((st,su,li,at',tx,(m,p,q,hs,b,()),le,ou,()),400))
 else if st=8 then
  (if c.toNat=10 then hdN su 0 at' tx m p q hs b le ou else((st,su,li,at',tx,(m,p,q,hs,b,()),le,ou,()),400))
 else if st=6 then
  (if c.toNat=13 then((7,su,li,at',[],(m,p,q,hs.set (hs.length-1) ((hs.getD (hs.length-1) ([],[],())).1,trimL (trimR tx),()),b,()),le,ou,()),0)
   else if 32<=c.toNat/\c.toNat<=126\/c.toNat=9 then((st,su,li+1,at',tx++[c],(m,p,q,hs,b,()),le,ou,()),0)
   else((st,su,li,at',tx,(m,p,q,hs,b,()),le,ou,()),400))
 else
  (if c.toNat=13/\li=0 then((8,su,li,at',tx,(m,p,q,hs,b,()),le,ou,()),0)
   else if c.toNat=58/\li>0 then((6,su,li+1,at',[],(m,p,q,hs++[(tx,[],())],b,()),le,ou,()),0)
   else if isTok c=true then((st,su,li+1,at',tx++[c],(m,p,q,hs,b,()),le,ou,()),0)
   else((st,su,li,at',tx,(m,p,q,hs,b,()),le,ou,()),400))
def mst (st su li at':Int) (tx m p q:L8) (hs:List HeadD) (b:L8) (le:Int) (ou:List ReqD) (c:UInt8):ScanD×Int:=
 if longN (st,su,li,at',tx,(m,p,q,hs,b,()),le,ou,()) c≠0 then((st,su,li,at',tx,(m,p,q,hs,b,()),le,ou,()),longN (st,su,li,at',tx,(m,p,q,hs,b,()),le,ou,()) c)
 else if st=0 then
  (if isCap c=true/\li<10 then((st,su,li+1,at',tx++[c],(m,p,q,hs,b,()),le,ou,()),0)
   else if c.toNat=32/\li>0 then((1,su,li+1,at',[],(tx,p,q,hs,b,()),le,ou,()),0)
   else((st,su,li,at',tx,(m,p,q,hs,b,()),le,ou,()),400))
 else if st=1 then
  (if tx.length=0/\c.toNat≠47 then((st,su,li,at',tx,(m,p,q,hs,b,()),le,ou,()),400)
   else if c.toNat=63 then((2,su,li+1,at',[],(m,tx,q,hs,b,()),le,ou,()),0)
   else if c.toNat=32 then((3,su,li+1,at',[],(m,tx,q,hs,b,()),le,ou,()),0)
   else if isVis c=true then((st,su,li+1,at',tx++[c],(m,p,q,hs,b,()),le,ou,()),0)
   else((st,su,li,at',tx,(m,p,q,hs,b,()),le,ou,()),400))
 else if st=2 then
  (if c.toNat=32 then((3,su,li+1,at',[],(m,p,tx,hs,b,()),le,ou,()),0)
   else if isVis c=true then((st,su,li+1,at',tx++[c],(m,p,q,hs,b,()),le,ou,()),0)
   else((st,su,li,at',tx,(m,p,q,hs,b,()),le,ou,()),400))
 else if st=3 then
  (if at'=8 then(if c.toNat=13 then((4,su,li,0,tx,(m,p,q,hs,b,()),le,ou,()),0) else((st,su,li,at',tx,(m,p,q,hs,b,()),le,ou,()),400))
   else if c.toNat=(verB.getD at'.toNat 0).toNat then((st,su,li+1,at'+1,tx,(m,p,q,hs,b,()),le,ou,()),0)
   else((st,su,li,at',tx,(m,p,q,hs,b,()),le,ou,()),400))
 else if st=9 then
  (if le-1=0 then((0,su,li,at',[],([],[],[],[],[],()),le-1,ou++[(m,p,q,hs,tx++[c],())],()),0)
   else((st,su,li,at',tx++[c],(m,p,q,hs,b,()),le-1,ou,()),0))
 else lnN st su li at' tx m p q hs b le ou c
structure OkX (st li at':Int) (tx:L8) (hs:List HeadD) (le:Int) (ou:List ReqD):Prop where
 li0:0<=li
 li1:li<=1099511627776
 at0:0<=at'
 at1:at'<=8
 tx1:tx.length<=1099511627776
 hs1:hs.length<=1000000
 hs2:∀h,h∈hs->h.1.length<=1099511627776/\h.2.1.length<=1099511627776
 hs6:st=6->0<hs.length
 le0: -1099511627776<=le
 le1:le<=1099511627776
 ou1:ou.length<=1099511627776
open Go Go.Eng
def feed1 (x:ScanD) (c:UInt8):ScanD:=
 let z:=mst x.1 x.2.1 x.2.2.1 x.2.2.2.1 x.2.2.2.2.1 x.2.2.2.2.2.1.1 x.2.2.2.2.2.1.2.1 x.2.2.2.2.2.1.2.2.1 x.2.2.2.2.2.1.2.2.2.1 x.2.2.2.2.2.1.2.2.2.2.1 x.2.2.2.2.2.2.1 x.2.2.2.2.2.2.2.1 c
 (z.1.1,z.2,z.1.2.2)
def mrun:ScanD->L8->ScanD
 |x,[]=>x
 |x,c::r=>if x.2.1=0 then mrun (feed1 x c) r else x
abbrev initX (ou:List ReqD):ScanD:=(0,0,0,0,[],([],[],[],[],[],()),0,ou,())
inductive Out1 where
 |more
 |bad (e:Int)
 |whole (m p q:L8) (r:L8)
inductive Out2 where
 |more
 |bad (e:Int)
 |head (h:HeadD) (r:L8)
 |fin (r:L8)
inductive Out3 where
 |more
 |bad (e:Int)
 |whole (x:ReqD) (r:L8)
abbrev LD:=Int×Int×L8×L8×L8×L8
def a1 (st at':Int) (tx m p q:L8) (c:UInt8):Option LD:=
 if st=0 then
  (if isCap c=true/\tx.length<10 then some (0,at',tx++[c],m,p,q)
   else if c.toNat=32/\0<tx.length then some (1,at',[],tx,p,q) else none)
 else if st=1 then
  (if tx.length=0/\c.toNat≠47 then none
   else if c.toNat=63 then some (2,at',[],m,tx,q)
   else if c.toNat=32 then some (3,at',[],m,tx,q)
   else if isVis c=true then some (1,at',tx++[c],m,p,q) else none)
 else if st=2 then
  (if c.toNat=32 then some (3,at',[],m,p,tx)
   else if isVis c=true then some (2,at',tx++[c],m,p,q) else none)
 else if at'=8 then none
 else if c.toNat=(verB.getD at'.toNat 0).toNat then some (3,at'+1,tx,m,p,q) else none
def r1 (st at':Int) (tx m p q:L8) (i:Nat):L8->Out1
 |[]=>.more
 |c::r=>
  if c.toNat=13 then
   (if st=3/\at'=8 then(match r with|[]=>.more|d::r'=>if d.toNat=10 then .whole m p q r' else .bad 400) else .bad 400)
  else if 200<=i then .bad 414
  else match a1 st at' tx m p q c with
   |none=>.bad 400
   |some (st',at2,tx',m',p',q')=>r1 st' at2 tx' m' p' q' (i+1) r
def a2 (st:Int) (nm tx:L8) (c:UInt8):Option (Int×L8×L8):=
 if st=5 then(if c.toNat=58/\0<tx.length then some (6,tx,[]) else if isTok c=true then some (5,nm,tx++[c]) else none)
 else if 32<=c.toNat/\c.toNat<=126\/c.toNat=9 then some (6,nm,tx++[c]) else none
def r2 (nh:Nat) (st:Int) (nm tx:L8) (i:Nat):L8->Out2
 |[]=>.more
 |c::r=>
  if c.toNat=13 then
   (if st=5 then(if i=0 then(match r with|[]=>.more|d::r'=>if d.toNat=10 then .fin r' else .bad 400) else .bad 400)
    else(match r with|[]=>.more|d::r'=>if d.toNat=10 then .head (nm,trimL (trimR tx),()) r' else .bad 400))
  else if 120<=i then .bad 431
  else if i=0/\10<=nh then .bad 431
  else match a2 st nm tx c with
   |none=>.bad 400
   |some (st',nm',tx')=>r2 nh st' nm' tx' (i+1) r
theorem mrun_bad (x:ScanD) (s:L8) (h:x.2.1≠0):mrun x s=x:=by
 cases s with
 |nil=>rfl
 |cons c r=>exact if_neg h
theorem mrun_app:∀(x:ScanD) (a b:L8),mrun x (a++b)=mrun (mrun x a) b
 |x,[],b=>rfl
 |x,c::a,b=>by
  show(if x.2.1=0 then mrun (feed1 x c) (a++b) else x)=mrun (if x.2.1=0 then mrun (feed1 x c) a else x) b;by_cases h:x.2.1=0
  ·rw[if_pos h,if_pos h];exact mrun_app _ a b
  ·rw[if_neg h,if_neg h,mrun_bad x b h]
theorem mrun_step {st li at':Int} {tx m p q:L8} {hs:List HeadD} {b:L8} {le:Int} {ou:List ReqD} {c:UInt8} {r:L8} {z:ScanD×Int}
  (h:mst st 0 li at' tx m p q hs b le ou c=z):mrun (st,0,li,at',tx,(m,p,q,hs,b,()),le,ou,()) (c::r)=mrun (z.1.1,z.2,z.1.2.2) r:=by
 subst h;exact if_pos rfl
def Waits (x:ScanD) (ou:List ReqD):Prop:=x.2.1=0/\x.2.2.2.2.2.2.2.1=ou/\(x.1≠0\/x.2.2.1≠0)
def Wrong (x:ScanD) (ou:List ReqD) (e:Int):Prop:=x.2.1=e/\e≠0/\x.2.2.2.2.2.2.2.1=ou
theorem wrong_of {st su li at':Int} {tx:L8} {rq:ReqD} {le:Int} {ou:List ReqD} {r:L8} (h:su≠0):Wrong (mrun (st,su,li,at',tx,rq,le,ou,()) r) ou su:=by
 rw[mrun_bad _ r h];exact⟨rfl,h,rfl⟩
theorem mst_a1 (st li at':Int) (tx m p q:L8) (le:Int) (ou:List ReqD) (c:UInt8) (h0:st=0\/st=1\/st=2\/st=3) (hl:st=0->li=tx.length) (hi:li<200) (hc:c.toNat≠13):
  (a1 st at' tx m p q c=none/\mst st 0 li at' tx m p q [] [] le ou c=((st,0,li,at',tx,(m,p,q,[],[],()),le,ou,()),400))\/
  ∃st' at2 tx' m' p' q',a1 st at' tx m p q c=some (st',at2,tx',m',p',q')/\mst st 0 li at' tx m p q [] [] le ou c=((st',0,li+1,at2,tx',(m',p',q',[],[],()),le,ou,()),0):=by
 have hg:longN (st,0,li,at',tx,(m,p,q,[],[],()),le,ou,()) c=0:=by
  unfold longN;simp only;rw[if_neg (by omega),if_neg (by omega),if_neg (by omega),if_neg (by omega)]
 unfold mst a1;rw[if_neg (c:=longN _ _≠0) (λh=>h hg)];rcases h0 with rfl|rfl|rfl|rfl
 ·have:=hl rfl;rw[if_pos rfl,if_pos rfl];by_cases h1:isCap c=true/\tx.length<10
  ·rw[if_pos h1,if_pos (show isCap c=true/\li<10 from⟨h1.1,by omega⟩)];exact .inr ⟨_,_,_,_,_,_,rfl,rfl⟩
  ·rw[if_neg h1,if_neg (show ¬(isCap c=true/\li<10) from λh=>h1 ⟨h.1,by omega⟩)];by_cases h2:c.toNat=32/\0<tx.length
   ·rw[if_pos h2,if_pos (show c.toNat=32/\li>0 from⟨h2.1,by omega⟩)];exact .inr ⟨_,_,_,_,_,_,rfl,rfl⟩
   ·rw[if_neg h2,if_neg (show ¬(c.toNat=32/\li>0) from λh=>h2 ⟨h.1,by omega⟩)];exact .inl ⟨rfl,rfl⟩
 ·simp only[Int.reduceEq,reduceIte];by_cases h1:tx.length=0/\c.toNat≠47
  ·rw[if_pos h1,if_pos h1];exact .inl ⟨rfl,rfl⟩
  rw[if_neg h1,if_neg h1];by_cases h2:c.toNat=63
  ·rw[if_pos h2,if_pos h2];exact .inr ⟨_,_,_,_,_,_,rfl,rfl⟩
  rw[if_neg h2,if_neg h2];by_cases h3:c.toNat=32
  ·rw[if_pos h3,if_pos h3];exact .inr ⟨_,_,_,_,_,_,rfl,rfl⟩
  rw[if_neg h3,if_neg h3];by_cases h4:isVis c=true
  ·rw[if_pos h4,if_pos h4];exact .inr ⟨_,_,_,_,_,_,rfl,rfl⟩
  ·rw[if_neg h4,if_neg h4];exact .inl ⟨rfl,rfl⟩
 ·simp only[Int.reduceEq,reduceIte];by_cases h3:c.toNat=32
  ·rw[if_pos h3,if_pos h3];exact .inr ⟨_,_,_,_,_,_,rfl,rfl⟩
  rw[if_neg h3,if_neg h3];by_cases h4:isVis c=true
  ·rw[if_pos h4,if_pos h4];exact .inr ⟨_,_,_,_,_,_,rfl,rfl⟩
  ·rw[if_neg h4,if_neg h4];exact .inl ⟨rfl,rfl⟩
 ·simp only[Int.reduceEq,reduceIte];by_cases h8:at'=8
  ·rw[if_pos h8,if_pos h8,if_neg hc];exact .inl ⟨rfl,rfl⟩
  ·rw[if_neg h8,if_neg h8];by_cases hv:c.toNat=(verB.getD at'.toNat 0).toNat
   ·rw[if_pos hv,if_pos hv];exact .inr ⟨_,_,_,_,_,_,rfl,rfl⟩
   ·rw[if_neg hv,if_neg hv];exact .inl ⟨rfl,rfl⟩
theorem ver13 (c:UInt8) (h:c.toNat=13) (k:Int) (h0:0<=k) (h8:k<8):c.toNat≠(verB.getD k.toNat 0).toNat:=by
 rw[h];have:k=0\/k=1\/k=2\/k=3\/k=4\/k=5\/k=6\/k=7:=by omega
 rcases this with rfl|rfl|rfl|rfl|rfl|rfl|rfl|rfl<;>decide
theorem mst_cr1 (st li at':Int) (tx m p q:L8) (le:Int) (ou:List ReqD) (c:UInt8) (h0:st=0\/st=1\/st=2\/st=3) (ha:0<=at'/\at'<=8) (hc:c.toNat=13):
  mst st 0 li at' tx m p q [] [] le ou c=if st=3/\at'=8 then((4,0,li,0,tx,(m,p,q,[],[],()),le,ou,()),0) else((st,0,li,at',tx,(m,p,q,[],[],()),le,ou,()),400):=by
 have hg:longN (st,0,li,at',tx,(m,p,q,[],[],()),le,ou,()) c=0:=if_pos (.inl hc);have hv:¬isVis c=true:=by unfold isVis;rw[decide_eq_true_iff];omega
 have hcap:¬isCap c=true:=by rw[isCap_iff];omega
 unfold mst;rw[if_neg (c:=longN _ _≠0) (λh=>h hg)];rcases h0 with rfl|rfl|rfl|rfl
 ·rw[if_pos rfl,if_neg (λh=>hcap h.1),if_neg (λh=>by omega),if_neg (by omega)]
 ·rw[if_neg (by decide),if_pos rfl,if_neg (show ¬((1:Int)=3/\at'=8) by omega)];by_cases h1:tx.length=0/\c.toNat≠47
  ·rw[if_pos h1]
  ·rw[if_neg h1,if_neg (by omega),if_neg (by omega),if_neg hv]
 ·rw[if_neg (by decide),if_neg (by decide),if_pos rfl,if_neg (by omega),if_neg hv,if_neg (show ¬((2:Int)=3/\at'=8) by omega)]
 ·rw[if_neg (by decide),if_neg (by decide),if_neg (by decide),if_pos rfl];by_cases h8:at'=8
  ·rw[if_pos h8,if_pos hc,if_pos ⟨rfl,h8⟩]
  ·rw[if_neg h8,if_neg (ver13 c hc at' ha.1 (by omega)),if_neg (λh=>h8 h.2)]
theorem a1_inv {st at':Int} {tx m p q:L8} {c:UInt8} {st' at2:Int} {tx' m' p' q':L8} (h:a1 st at' tx m p q c=some (st',at2,tx',m',p',q'))
  (h0:st=0\/st=1\/st=2\/st=3) (ha:0<=at'/\at'<=8) (hb:st≠3->at'=0) (ht:st=3->tx=[]):
  (st'=0\/st'=1\/st'=2\/st'=3)/\(0<=at2/\at2<=8)/\(st'≠3->at2=0)/\(st'=3->tx'=[])/\(st'=0->st=0/\tx'.length=tx.length+1):=by
 unfold a1 at h;rcases h0 with rfl|rfl|rfl|rfl
 ·have:=hb (by decide);rw[if_pos rfl] at h
  split at h
  ·simp only[Option.some.injEq,Prod.mk.injEq] at h;obtain⟨rfl,rfl,rfl, -⟩:=h;exact⟨by omega,by omega,λ_=>this,λh=>by omega,λ_=>⟨rfl,by simp⟩⟩
  ·split at h
   ·simp only[Option.some.injEq,Prod.mk.injEq] at h;obtain⟨rfl,rfl,rfl, -⟩:=h;exact⟨by omega,by omega,λ_=>this,λh=>by omega,λh=>by omega⟩
   ·cases h
 ·have:=hb (by decide);rw[if_neg (by decide),if_pos rfl] at h
  split at h
  ·cases h
  ·split at h
   ·simp only[Option.some.injEq,Prod.mk.injEq] at h;obtain⟨rfl,rfl,rfl, -⟩:=h;exact⟨by omega,by omega,λ_=>this,λh=>by omega,λh=>by omega⟩
   ·split at h
    ·simp only[Option.some.injEq,Prod.mk.injEq] at h;obtain⟨rfl,rfl,rfl, -⟩:=h;exact⟨by omega,by omega,λ_=>this,λh=>rfl,λh=>by omega⟩
    ·split at h
     ·simp only[Option.some.injEq,Prod.mk.injEq] at h;obtain⟨rfl,rfl,rfl, -⟩:=h;exact⟨by omega,by omega,λ_=>this,λh=>by omega,λh=>by omega⟩
     ·cases h
 ·have:=hb (by decide);rw[if_neg (by decide),if_neg (by decide),if_pos rfl] at h
  split at h
  ·simp only[Option.some.injEq,Prod.mk.injEq] at h;obtain⟨rfl,rfl,rfl, -⟩:=h;exact⟨by omega,by omega,λ_=>this,λh=>rfl,λh=>by omega⟩
  ·split at h
   ·simp only[Option.some.injEq,Prod.mk.injEq] at h;obtain⟨rfl,rfl,rfl, -⟩:=h;exact⟨by omega,by omega,λ_=>this,λh=>by omega,λh=>by omega⟩
   ·cases h
 ·rw[if_neg (by decide),if_neg (by decide),if_neg (by decide)] at h
  split at h
  ·cases h
  ·split at h
   ·simp only[Option.some.injEq,Prod.mk.injEq] at h;obtain⟨rfl,rfl,rfl, -⟩:=h;exact⟨by omega,by omega,λh=>absurd rfl h,λh=>ht rfl,λh=>by omega⟩
   ·cases h
theorem mst_lf1 (li at':Int) (tx m p q:L8) (hs:List HeadD) (b:L8) (le:Int) (ou:List ReqD) (c:UInt8) (st:Int) (h:st=4\/st=7):
  mst st 0 li at' tx m p q hs b le ou c=if c.toNat=10 then((5,0,0,at',tx,(m,p,q,hs,b,()),le,ou,()),0) else((st,0,li,at',tx,(m,p,q,hs,b,()),le,ou,()),400):=by
 have hg:longN (st,0,li,at',tx,(m,p,q,hs,b,()),le,ou,()) c=0:=if_pos (show c.toNat=13\/st>=7\/st=4 by omega);unfold mst;rw[if_neg (c:=longN _ _≠0) (λh=>h hg),if_neg (by omega),if_neg (by omega),if_neg (by omega),if_neg (by omega),if_neg (by omega)];unfold lnN;rw[if_pos h]
theorem mst_lf8 (li at':Int) (tx m p q:L8) (hs:List HeadD) (b:L8) (le:Int) (ou:List ReqD) (c:UInt8):
  mst 8 0 li at' tx m p q hs b le ou c=if c.toNat=10 then hdN 0 0 at' tx m p q hs b le ou else((8,0,li,at',tx,(m,p,q,hs,b,()),le,ou,()),400):=by
 have hg:longN (8,0,li,at',tx,(m,p,q,hs,b,()),le,ou,()) c=0:=if_pos (show c.toNat=13\/(8:Int)>=7\/(8:Int)=4 by omega);unfold mst;rw[if_neg (c:=longN _ _≠0) (λh=>h hg),if_neg (by omega),if_neg (by omega),if_neg (by omega),if_neg (by omega),if_neg (by omega)];unfold lnN;rw[if_neg (by omega),if_pos rfl]
theorem run1:∀(s:L8) (st at':Int) (tx m p q:L8) (i:Nat) (le:Int) (ou:List ReqD),(st=0\/st=1\/st=2\/st=3)->(0<=at'/\at'<=8)->(st≠3->at'=0)->(st=3->tx=[])->(st=0->i=tx.length)->
  (s≠[]\/st≠0\/i≠0)->
  match r1 st at' tx m p q i s with
  | .more=>Waits (mrun (st,0,(i:Int),at',tx,(m,p,q,[],[],()),le,ou,()) s) ou
  | .bad e=>Wrong (mrun (st,0,(i:Int),at',tx,(m,p,q,[],[],()),le,ou,()) s) ou e
  | .whole m' p' q' r=>mrun (st,0,(i:Int),at',tx,(m,p,q,[],[],()),le,ou,()) s=mrun (5,0,0,0,[],(m',p',q',[],[],()),le,ou,()) r/\r.length<s.length
 |[],st,at',tx,m,p,q,i,le,ou,h0,ha,hb,ht,hi,hn=>by
  refine⟨rfl,rfl,?_⟩;show st≠0\/(i:Int)≠0;rcases hn with h|h|h
  ·exact absurd rfl h
  ·exact .inl h
  ·exact .inr (by omega)
 |c::r,st,at',tx,m,p,q,i,le,ou,h0,ha,hb,ht,hi,hn=>by
  unfold r1;by_cases hc:c.toNat=13
  ·rw[if_pos hc];have hm:=mst_cr1 st i at' tx m p q le ou c h0 ha hc;by_cases h38:st=3/\at'=8
   ·rw[if_pos h38] at hm⊢;rw[mrun_step hm];cases r with
    |nil=>exact⟨rfl,rfl,.inl (by show(4:Int)≠0;decide)⟩
    |cons d r=>
     have hd:=mst_lf1 i 0 tx m p q [] [] le ou d 4 (.inl rfl);simp only;by_cases h10:d.toNat=10
     ·rw[if_pos h10] at hd⊢;simp only;rw[mrun_step hd,ht h38.1];exact⟨rfl,by simp only[List.length_cons];omega⟩
     ·rw[if_neg h10] at hd⊢;simp only;rw[mrun_step hd];exact wrong_of (show(400:Int)≠0 by decide)
   ·rw[if_neg h38] at hm⊢;simp only;rw[mrun_step hm];exact wrong_of (show(400:Int)≠0 by decide)
  ·rw[if_neg hc];by_cases h200:200<=i
   ·rw[if_pos h200];have hg:longN (st,0,(i:Int),at',tx,(m,p,q,[],[],()),le,ou,()) c=414:=by
     unfold longN;simp only;rw[if_neg (by omega),if_pos (by omega)]
    have hm:mst st 0 i at' tx m p q [] [] le ou c=((st,0,(i:Int),at',tx,(m,p,q,[],[],()),le,ou,()),414):=by
     unfold mst;rw[hg,if_pos (by decide)]
    simp only;rw[mrun_step hm];exact wrong_of (show(414:Int)≠0 by decide)
   ·rw[if_neg h200];rcases mst_a1 st i at' tx m p q le ou c h0 (λh=>by have:=hi h;omega) (by omega) hc with⟨ea,em⟩|⟨st',at2,tx',m',p',q',ea,em⟩
    ·rw[ea];simp only;rw[mrun_step em];exact wrong_of (show(400:Int)≠0 by decide)
    ·rw[ea];simp only;rw[mrun_step em];obtain⟨j0,ja,jb,jt,ji⟩:=a1_inv ea h0 ha hb ht;have ih:=run1 r st' at2 tx' m' p' q' (i+1) le ou j0 ja jb jt (λh=>by have:=ji h;have:=hi this.1;omega) (.inr (.inr (by omega)));rw[show((i+1:Nat):Int)=(i:Int)+1 by omega] at ih
     revert ih
     cases r1 st' at2 tx' m' p' q' (i+1) r with
     |more=>exact id
     |bad e=>exact id
     |whole a b c d=>exact λih=>⟨ih.1,by have:=ih.2;simp only[List.length_cons];omega⟩
open Go Go.Eng
theorem mst_a2 (st li:Int) (tx m p q:L8) (hs:List HeadD) (nm:L8) (le:Int) (ou:List ReqD) (c:UInt8) (nh:Nat) (h0:st=5\/st=6) (hl:st=5->li=tx.length) (l0:st=6->0<li) (hi:li<120) (hn:li=0->nh<10) (hc:c.toNat≠13)
  (hh:hs.length=if st=5 then nh else nh+1):
  (a2 st nm tx c=none/\mst st 0 li 0 tx m p q hs [] le ou c=((st,0,li,0,tx,(m,p,q,hs,[],()),le,ou,()),400))\/
  ∃st' nm' tx',a2 st nm tx c=some (st',nm',tx')/\mst st 0 li 0 tx m p q hs [] le ou c=((st',0,li+1,0,tx',(m,p,q,if st'=6/\st=5 then hs++[(nm',[],())] else hs,[],()),le,ou,()),0):=by
 have hg:longN (st,0,li,0,tx,(m,p,q,hs,[],()),le,ou,()) c=0:=by
  unfold longN;simp only;rw[if_neg (by omega),if_neg (by omega),if_neg (by omega),if_neg];rintro⟨rfl,h2,h3⟩;have:=hn h2;rw[if_pos rfl] at hh;omega
 unfold mst a2;rw[if_neg (c:=longN _ _≠0) (λh=>h hg)];rcases h0 with rfl|rfl
 ·have:=hl rfl;simp only[Int.reduceEq,reduceIte];unfold lnN;simp only[Int.reduceEq,reduceIte,or_self];rw[if_neg (show ¬(c.toNat=13/\li=0) from λh=>hc h.1)];by_cases h1:c.toNat=58/\0<tx.length
  ·rw[if_pos h1,if_pos (show c.toNat=58/\li>0 from⟨h1.1,by omega⟩)];exact .inr ⟨_,_,_,rfl,rfl⟩
  ·rw[if_neg h1,if_neg (show ¬(c.toNat=58/\li>0) from λh=>h1 ⟨h.1,by omega⟩)];by_cases h2:isTok c=true
   ·rw[if_pos h2,if_pos h2];exact .inr ⟨_,_,_,rfl,rfl⟩
   ·rw[if_neg h2,if_neg h2];exact .inl ⟨rfl,rfl⟩
 ·simp only[Int.reduceEq,reduceIte];unfold lnN;simp only[Int.reduceEq,reduceIte,or_self];rw[if_neg hc];by_cases h1:32<=c.toNat/\c.toNat<=126\/c.toNat=9
  ·rw[if_pos h1,if_pos h1];exact .inr ⟨_,_,_,rfl,rfl⟩
  ·rw[if_neg h1,if_neg h1];exact .inl ⟨rfl,rfl⟩
theorem a2_inv {st:Int} {nm tx:L8} {c:UInt8} {st':Int} {nm' tx':L8} (h:a2 st nm tx c=some (st',nm',tx')) (h0:st=5\/st=6):
  (st'=5/\st=5/\tx'.length=tx.length+1/\nm'=nm)\/(st'=6/\st=5/\nm'=tx)\/(st'=6/\st=6/\nm'=nm):=by
 unfold a2 at h;rcases h0 with rfl|rfl
 ·rw[if_pos rfl] at h
  split at h
  ·simp only[Option.some.injEq,Prod.mk.injEq] at h;obtain⟨rfl,rfl,rfl⟩:=h;exact .inr (.inl ⟨rfl,rfl,rfl⟩)
  ·split at h
   ·simp only[Option.some.injEq,Prod.mk.injEq] at h;obtain⟨rfl,rfl,rfl⟩:=h;exact .inl ⟨rfl,rfl,by simp,rfl⟩
   ·cases h
 ·rw[if_neg (by decide)] at h
  split at h
  ·simp only[Option.some.injEq,Prod.mk.injEq] at h;obtain⟨rfl,rfl,rfl⟩:=h;exact .inr (.inr ⟨rfl,rfl,rfl⟩)
  ·cases h
theorem mst_cr5 (li:Int) (tx m p q:L8) (hs:List HeadD) (le:Int) (ou:List ReqD) (c:UInt8) (hc:c.toNat=13):
  mst 5 0 li 0 tx m p q hs [] le ou c=if li=0 then((8,0,li,0,tx,(m,p,q,hs,[],()),le,ou,()),0) else((5,0,li,0,tx,(m,p,q,hs,[],()),le,ou,()),400):=by
 have hg:longN (5,0,li,0,tx,(m,p,q,hs,[],()),le,ou,()) c=0:=if_pos (.inl hc);have ht:¬isTok c=true:=by unfold isTok;rw[decide_eq_true_iff];omega
 unfold mst;rw[if_neg (c:=longN _ _≠0) (λh=>h hg)];simp only[Int.reduceEq,reduceIte];unfold lnN;simp only[Int.reduceEq,reduceIte,or_self];by_cases h:li=0
 ·rw[if_pos ⟨hc,h⟩,if_pos h]
 ·rw[if_neg (λh'=>h h'.2),if_neg (by omega),if_neg ht,if_neg h]
theorem mst_cr6 (li:Int) (tx m p q:L8) (hs:List HeadD) (nm:L8) (le:Int) (ou:List ReqD) (c:UInt8) (hc:c.toNat=13):
  mst 6 0 li 0 tx m p q (hs++[(nm,[],())]) [] le ou c=((7,0,li,0,[],(m,p,q,hs++[(nm,trimL (trimR tx),())],[],()),le,ou,()),0):=by
 have hg:longN (6,0,li,0,tx,(m,p,q,hs++[(nm,[],())],[],()),le,ou,()) c=0:=if_pos (.inl hc);unfold mst;rw[if_neg (c:=longN _ _≠0) (λh=>h hg)];simp only[Int.reduceEq,reduceIte];unfold lnN;simp only[Int.reduceEq,reduceIte,or_self];rw[if_pos hc];have e:(hs++[(nm,([]:L8),())]).length-1=hs.length:=by simp
 rw[e,getD_mid,set_mid]
theorem run2:∀(s:L8) (nh:Nat) (st:Int) (nm tx m p q:L8) (hs:List HeadD) (i:Nat) (le:Int) (ou:List ReqD),(st=5\/st=6)->(st=5->i=tx.length)->(st=6->0<i)->hs.length=nh->
  match r2 nh st nm tx i s with
  | .more=>Waits (mrun (st,0,(i:Int),0,tx,(m,p,q,if st=5 then hs else hs++[(nm,[],())],[],()),le,ou,()) s) ou
  | .bad e=>Wrong (mrun (st,0,(i:Int),0,tx,(m,p,q,if st=5 then hs else hs++[(nm,[],())],[],()),le,ou,()) s) ou e
  | .head h r=>mrun (st,0,(i:Int),0,tx,(m,p,q,if st=5 then hs else hs++[(nm,[],())],[],()),le,ou,()) s=mrun (5,0,0,0,[],(m,p,q,hs++[h],[],()),le,ou,()) r/\r.length<s.length
  | .fin r=>mrun (st,0,(i:Int),0,tx,(m,p,q,if st=5 then hs else hs++[(nm,[],())],[],()),le,ou,()) s=mrun ((hdN 0 0 0 [] m p q hs [] le ou).1.1,(hdN 0 0 0 [] m p q hs [] le ou).2,(hdN 0 0 0 [] m p q hs [] le ou).1.2.2) r/\r.length<s.length
 |[],nh,st,nm,tx,m,p,q,hs,i,le,ou,h0,hl,l0,hh=>by
  refine⟨rfl,rfl,.inl ?_⟩;show st≠0;omega
 |c::r,nh,st,nm,tx,m,p,q,hs,i,le,ou,h0,hl,l0,hh=>by
  unfold r2;by_cases hc:c.toNat=13
  ·rw[if_pos hc];rcases h0 with rfl|rfl
   ·rw[if_pos rfl,if_pos rfl];have hm:=mst_cr5 i tx m p q hs le ou c hc;by_cases hi:i=0
    ·rw[if_pos (show(i:Int)=0 by omega)] at hm;rw[if_pos hi,mrun_step hm];have htx:tx=[]:=List.length_eq_zero_iff.1 (by rw[<-hl rfl];exact hi);cases r with
     |nil=>exact⟨rfl,rfl,.inl (by show(8:Int)≠0;decide)⟩
     |cons d r=>
      have hd:=mst_lf8 i 0 tx m p q hs [] le ou d;simp only;by_cases h10:d.toNat=10
      ·rw[if_pos h10] at hd⊢;simp only;rw[mrun_step hd,htx];exact⟨rfl,by simp only[List.length_cons];omega⟩
      ·rw[if_neg h10] at hd⊢;simp only;rw[mrun_step hd];exact wrong_of (show(400:Int)≠0 by decide)
    ·rw[if_neg (show ¬(i:Int)=0 by omega)] at hm;rw[if_neg hi,mrun_step hm];exact wrong_of (show(400:Int)≠0 by decide)
   ·rw[if_neg (by decide),if_neg (by decide)];have hm:=mst_cr6 i tx m p q hs nm le ou c hc;rw[mrun_step hm];cases r with
    |nil=>exact⟨rfl,rfl,.inl (by show(7:Int)≠0;decide)⟩
    |cons d r=>
     have hd:=mst_lf1 i 0 [] m p q (hs++[(nm,trimL (trimR tx),())]) [] le ou d 7 (.inr rfl);simp only;by_cases h10:d.toNat=10
     ·rw[if_pos h10] at hd⊢;simp only;rw[mrun_step hd];exact⟨rfl,by simp only[List.length_cons];omega⟩
     ·rw[if_neg h10] at hd⊢;simp only;rw[mrun_step hd];exact wrong_of (show(400:Int)≠0 by decide)
  ·rw[if_neg hc];generalize hX:(if st=5 then hs else hs++[(nm,([]:L8),())])=X;have hXl:X.length=if st=5 then nh else nh+1:=by
    rw[<-hX];by_cases h5:st=5
    ·rw[if_pos h5,if_pos h5,hh]
    ·rw[if_neg h5,if_neg h5,List.length_append,hh];rfl
   by_cases h120:120<=i
   ·rw[if_pos h120];have hg:longN (st,0,(i:Int),0,tx,(m,p,q,X,[],()),le,ou,()) c=431:=by
     unfold longN;simp only;rw[if_neg (by omega),if_neg (by omega),if_pos (by omega)]
    have hm:mst st 0 i 0 tx m p q X [] le ou c=((st,0,(i:Int),0,tx,(m,p,q,X,[],()),le,ou,()),431):=by
     unfold mst;rw[hg,if_pos (by decide)]
    simp only;rw[mrun_step hm];exact wrong_of (show(431:Int)≠0 by decide)
   ·rw[if_neg h120];by_cases hn:i=0/\10<=nh
    ·rw[if_pos hn];have h5:st=5:=by omega
     rw[if_pos h5] at hXl;have hg:longN (st,0,(i:Int),0,tx,(m,p,q,X,[],()),le,ou,()) c=431:=by
      unfold longN;simp only;rw[if_neg (by omega),if_neg (by omega),if_neg (by omega),if_pos ⟨h5,by omega,by omega⟩]
     have hm:mst st 0 i 0 tx m p q X [] le ou c=((st,0,(i:Int),0,tx,(m,p,q,X,[],()),le,ou,()),431):=by
      unfold mst;rw[hg,if_pos (by decide)]
     simp only;rw[mrun_step hm];exact wrong_of (show(431:Int)≠0 by decide)
    ·rw[if_neg hn];rcases mst_a2 st i tx m p q X nm le ou c nh h0 (λh=>by have:=hl h;omega) (λh=>by have:=l0 h;omega) (by omega) (λh=>by omega) hc hXl with⟨ea,em⟩|⟨st',nm',tx',ea,em⟩
     ·rw[ea];simp only;rw[mrun_step em];exact wrong_of (show(400:Int)≠0 by decide)
     ·rw[ea];simp only;rw[mrun_step em];have ji:=a2_inv ea h0;have ih:=run2 r nh st' nm' tx' m p q hs (i+1) le ou (by omega) (λh=>by omega) (λh=>by omega) hh;have hXX:(if st'=6/\st=5 then X++[(nm',([]:L8),())] else X)=(if st'=5 then hs else hs++[(nm',([]:L8),())]):=by
       rw[<-hX];rcases ji with⟨rfl,rfl, -, -⟩|⟨rfl,rfl, -⟩|⟨rfl,rfl,rfl⟩<;>simp
      rw[hXX];rw[show((i+1:Nat):Int)=(i:Int)+1 by omega] at ih
      revert ih
      cases r2 nh st' nm' tx' (i+1) r with
      |more=>exact id
      |bad e=>exact id
      |head a b=>exact λih=>⟨ih.1,by have:=ih.2;simp only[List.length_cons];omega⟩
      |fin b=>exact λih=>⟨ih.1,by have:=ih.2;simp only[List.length_cons];omega⟩
theorem mst_9 (tx m p q:L8) (hs:List HeadD) (le:Int) (ou:List ReqD) (c:UInt8):
  mst 9 0 0 0 tx m p q hs [] le ou c=if le-1=0 then((0,0,0,0,[],([],[],[],[],[],()),le-1,ou++[(m,p,q,hs,tx++[c],())],()),0)
   else((9,0,0,0,tx++[c],(m,p,q,hs,[],()),le-1,ou,()),0):=by
 have hg:longN (9,0,0,0,tx,(m,p,q,hs,[],()),le,ou,()) c=0:=if_pos (show c.toNat=13\/(9:Int)>=7\/(9:Int)=4 by omega);unfold mst;rw[if_neg (c:=longN _ _≠0) (λh=>h hg)];simp only[Int.reduceEq,reduceIte]
theorem run9:∀(s tx m p q:L8) (hs:List HeadD) (k:Nat) (ou:List ReqD),0<k->
  (s.length<k->Waits (mrun (9,0,0,0,tx,(m,p,q,hs,[],()),(k:Int),ou,()) s) ou)/\
  (k<=s.length->mrun (9,0,0,0,tx,(m,p,q,hs,[],()),(k:Int),ou,()) s=mrun (initX (ou++[(m,p,q,hs,tx++s.take k,())])) (s.drop k))
 |[],tx,m,p,q,hs,k,ou,hk=>⟨λ_=>⟨rfl,rfl,.inl (by show(9:Int)≠0;decide)⟩,λh=>by simp only[List.length_nil] at h;omega⟩
 |c::r,tx,m,p,q,hs,k,ou,hk=>by
  have hm:=mst_9 tx m p q hs k ou c;obtain⟨k,rfl⟩:∃j,k=j+1:=⟨k-1,by omega⟩
  by_cases h0:k=0
  ·subst h0;rw[if_pos (by omega)] at hm;rw[mrun_step hm];exact⟨λh=>by simp only[List.length_cons] at h;omega,λ_=>rfl⟩
  ·rw[if_neg (by omega)] at hm;rw[mrun_step hm];have ih:=run9 r (tx++[c]) m p q hs k ou (by omega);rw[show((k+1:Nat):Int)-1=(k:Int) by omega];refine⟨λh=>ih.1 (by simp only[List.length_cons] at h;omega),λh=> ?_⟩;have e:=ih.2 (by simp only[List.length_cons] at h;omega);rw[List.append_assoc] at e;exact e
def bodyR (m p q:L8) (hs:List HeadD) (u:L8):Out3:=
 if(refLen hs).2≠0 then .bad (refLen hs).2
 else if(u.length:Int)<(refLen hs).1 then .more
 else .whole (m,p,q,hs,u.take (refLen hs).1.toNat,()) (u.drop (refLen hs).1.toNat)
def hdsR:Nat->L8->L8->L8->List HeadD->L8->Out3
 |0,_,_,_,_,_=>.more
 |n+1,m,p,q,hs,u=>match r2 hs.length 5 [] [] 0 u with
  | .more=>.more
  | .bad e=>.bad e
  | .head h r=>hdsR n m p q (hs++[h]) r
  | .fin r=>bodyR m p q hs r
def oneR (s:L8):Out3:=match r1 0 0 [] [] [] [] 0 s with
 | .more=>.more
 | .bad e=>.bad e
 | .whole m p q r=>hdsR (r.length+1) m p q [] r
open Go Go.Eng
theorem refNum_nn (v:L8) (k:Int):0<=(refNum v k).1:=by
 unfold refNum;cases(allDig v&&decide ((v.length:Int)<=k))
 ·exact Int.le_refl 0
 ·exact Int.natCast_nonneg _
theorem refLen_nn (hs:List HeadD):0<=(refLen hs).1:=by
 unfold refLen;cases refHeads hs [] 0 with
 |none=>exact Int.le_refl 0
 |some x=>
  obtain⟨v,k⟩:=x;have:=refNum_nn v 6;unfold refLenOut;simp only;by_cases h0:k=0
  ·rw[if_pos h0];exact Int.le_refl 0
  rw[if_neg h0];by_cases h1:1<k\/(refNum v 6).2=false
  ·rw[if_pos h1];exact Int.le_refl 0
  rw[if_neg h1];by_cases h2:(refNum v 6).1>300
  ·rw[if_pos h2];exact this
  ·rw[if_neg h2];exact this
theorem hdN_is (m p q:L8) (hs:List HeadD) (ou:List ReqD):
  (mOut hs≠0->(hdN 0 0 0 [] m p q hs [] 0 ou).2=mOut hs/\(hdN 0 0 0 [] m p q hs [] 0 ou).1.2.2.2.2.2.2.2.1=ou)/\
  (mOut hs=0->hdN 0 0 0 [] m p q hs [] 0 ou=if scanLen hs=0 then((0,0,0,0,[],([],[],[],[],[],()),scanLen hs,ou++[(m,p,q,hs,[],())],()),0) else((9,0,0,0,[],(m,p,q,hs,[],()),scanLen hs,ou,()),0)):=by
 unfold mOut hdN;cases mHeads hs 0 with
 |none=>exact⟨λ_=>⟨rfl,rfl⟩,λh=>absurd (show(400:Int)=0 from h) (by decide)⟩
 |some k=>
  simp only;by_cases h1:1<k
  ·simp only[if_pos h1];exact⟨λ_=>⟨trivial,trivial⟩,λh=>absurd h (by decide)⟩
  ·simp only[if_neg h1];by_cases h2:scanLen hs>300
   ·simp only[if_pos h2];exact⟨λ_=>⟨trivial,trivial⟩,λh=>absurd h (by decide)⟩
   ·simp only[if_neg h2];exact⟨λh=>absurd rfl h,λ_=>trivial⟩
def Fits (s:L8) (X:ScanD) (ou:List ReqD):Out3->Prop
 | .more=>Waits X ou
 | .bad e=>Wrong X ou e
 | .whole x r=>X=mrun (initX (ou++[x])) r/\r.length<s.length
theorem run_body (m p q:L8) (hs:List HeadD) (u s:L8) (ou:List ReqD) (hu:u.length<s.length):
  Fits s (mrun ((hdN 0 0 0 [] m p q hs [] 0 ou).1.1,(hdN 0 0 0 [] m p q hs [] 0 ou).2,(hdN 0 0 0 [] m p q hs [] 0 ou).1.2.2) u) ou (bodyR m p q hs u):=by
 obtain⟨h1,h2⟩:=hdN_is m p q hs ou;obtain⟨e1,e2⟩:=mOut_ref hs;have nn:=refLen_nn hs;unfold bodyR;by_cases hb:(refLen hs).2≠0
 ·rw[if_pos hb];obtain⟨a1,a2⟩:=h1 (by rw[e1];exact hb);rw[mrun_bad _ u (by show(hdN 0 0 0 [] m p q hs [] 0 ou).2≠0;rw[a1,e1];exact hb)];exact⟨by show(hdN 0 0 0 [] m p q hs [] 0 ou).2=_;rw[a1,e1],hb,a2⟩
 ·rw[if_neg hb];have hz:(refLen hs).2=0:=by simpa using hb
  rw[h2 (by rw[e1];exact hz)];have es:=e2 (by rw[hz];decide);rw[es];obtain⟨k,hk⟩:=Int.eq_ofNat_of_zero_le nn;rw[hk];simp only[Int.toNat_natCast];by_cases h0:k=0
  ·subst h0;rw[if_pos (show((0:Nat):Int)=0 from rfl),if_neg (show ¬((u.length:Int)<((0:Nat):Int)) by omega)];exact⟨rfl,by rw[List.drop_zero];exact hu⟩
  ·rw[if_neg (by omega)];obtain⟨w1,w2⟩:=run9 u [] m p q hs k ou (by omega);by_cases hl:(u.length:Int)<(k:Int)
   ·rw[if_pos hl];exact w1 (by omega)
   ·rw[if_neg hl];exact⟨w2 (by omega),by rw[List.length_drop];omega⟩
theorem run_hds:∀(n:Nat) (m p q:L8) (hs:List HeadD) (u s:L8) (ou:List ReqD),u.length<n->u.length<s.length->
  Fits s (mrun (5,0,0,0,[],(m,p,q,hs,[],()),0,ou,()) u) ou (hdsR n m p q hs u)
 |0,m,p,q,hs,u,s,ou,hn,hu=>by omega
 |n+1,m,p,q,hs,u,s,ou,hn,hu=>by
  have h:=run2 u hs.length 5 [] [] m p q hs 0 0 ou (.inl rfl) (λ_=>rfl) (λh=>by omega) rfl;rw[if_pos rfl] at h;unfold hdsR
  revert h
  cases r2 hs.length 5 [] [] 0 u with
  |more=>exact id
  |bad e=>exact id
  |head h r=>
   intro⟨a,b⟩;show Fits s (mrun (5,0,((0:Nat):Int),0,[],(m,p,q,hs,[],()),0,ou,()) u) ou _;rw[a];exact run_hds n m p q (hs++[h]) r s ou (by omega) (by omega)
  |fin r=>
   intro⟨a,b⟩;show Fits s (mrun (5,0,((0:Nat):Int),0,[],(m,p,q,hs,[],()),0,ou,()) u) ou _;rw[a];exact run_body m p q hs r s ou (by omega)
theorem run_one (s:L8) (ou:List ReqD) (hs:s≠[]):Fits s (mrun (initX ou) s) ou (oneR s):=by
 have h:=run1 s 0 0 [] [] [] [] 0 0 ou (.inl rfl) (by omega) (λ_=>rfl) (λh=>by omega) (λ_=>rfl) (.inl hs);unfold oneR
 revert h
 cases r1 0 0 [] [] [] [] 0 s with
 |more=>exact id
 |bad e=>exact id
 |whole m p q r=>
  intro⟨a,b⟩;show Fits s (mrun (0,0,((0:Nat):Int),0,[],([],[],[],[],[],()),0,ou,()) s) ou _;rw[a];exact run_hds (r.length+1) m p q [] r s ou (by omega) b
def scanR:Nat->L8->List ReqD×Int×Bool
 |0,_=>([],0,true)
 |n+1,s=>if s=[] then([],0,true) else match oneR s with
  | .more=>([],0,false)
  | .bad e=>([],e,false)
  | .whole x r=>(x::(scanR n r).1,(scanR n r).2)
theorem run_scan:∀(n:Nat) (s:L8) (ou:List ReqD),s.length<n->
  (mrun (initX ou) s).2.1=(scanR n s).2.1/\(mrun (initX ou) s).2.2.2.2.2.2.2.1=ou++(scanR n s).1/\idleN (mrun (initX ou) s)=((scanR n s).2.2||(scanR n s).2.1 !=0)
 |0,s,ou,h=>by omega
 |n+1,s,ou,h=>by
  unfold scanR;by_cases he:s=[]
  ·subst he;rw[if_pos rfl];exact⟨rfl,(List.append_nil ou).symm,rfl⟩
  ·rw[if_neg he];have f:=run_one s ou he
   revert f
   cases oneR s with
   |more=>
    rintro⟨f1,f2,f3⟩;refine⟨f1,by rw[f2];exact(List.append_nil ou).symm,?_⟩;unfold idleN;rw[f1];show((0:Int) !=0||_)=(false||(0:Int) !=0);rcases f3 with f3|f3
    ·rw[beq_eq_false_iff_ne.2 f3];rfl
    ·rw[beq_eq_false_iff_ne.2 f3];simp
   |bad e=>
    rintro⟨f1,f2,f3⟩;refine⟨f1,by rw[f3];exact(List.append_nil ou).symm,?_⟩;unfold idleN;rw[f1];have:(e !=0)=true:=by simpa using f2
    rw[this];rfl
   |whole x r=>
    rintro⟨f1,f2⟩;rw[f1];have ih:=run_scan n r (ou++[x]) (by omega);rw[List.append_assoc] at ih;exact ih
