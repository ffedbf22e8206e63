/-
  Part of the proof: LawNW LawNX. No condition.
-/
import Derived.Test.YtdegbhgoldglaaaGreatDoorWT0
import Derived.WalkKit
import Derived.Lib.Walk
import Derived.Shelf.RegionOpenPlain
import Derived.Test.YtdegbhgoldglaaaGreatDoorWT1
import Derived.Test.YtdegbhgoldglaaaGreatDoorWT2
import Derived.Test.YtdegbhgoldglaaaGreatDoorWT3
import Derived.Test.YtdegbhgoldglaaaGreatDoorWT4
import Derived.Test.YtdegbhgoldglaaaGreatDoorSym
import Derived.Test.YtdegbhgoldglaaaGreatDoorEng11
namespace Go.Proofs.YtdegbhgoldglaaaGreatDoor
noncomputable section
open Go Go.Eng Go.RowKit Go.Shelf
set_option maxRecDepth 1000000
theorem nw_far (b:Bool) (t:Int) (h:t<0∨50<t) (w:World) (hw:GlW glC w):Calls Tryz.prog 5 #[.bool b,.int .i64 t] w fun e w'=>e=.returned (.bool true)∧Same w w':=by
 rcases h with h|h
 ·go_enter Tryz.func5,Tryz.ntmps5
  go_wp2_with (go_at_fn 7)
  refine(N_run w hw).mono ?_;rintro e w' ⟨rfl,hs⟩
  go_wp2
  go_ret
  exact⟨rfl,hs⟩
 ·have h0:¬t<0:=by omega
  go_enter Tryz.func5,Tryz.ntmps5
  go_wp2_with (go_at_fn 7)
  refine(N_run w hw).mono ?_;rintro e w' ⟨rfl,hs⟩
  go_wp2
  go_ret
  exact⟨rfl,hs⟩
theorem nw_run (b:Bool) (t:Int) (w:World) (hw:GlW glC w):Calls Tryz.prog 5 #[.bool b,.int .i64 t] w fun e w'=>e=.returned (.bool true)∧Same w w':=by
 by_cases h1:t<0
 ·exact nw_far b t (.inl h1) w hw
 by_cases h2:50<t
 ·exact nw_far b t (.inr h2) w hw
 obtain⟨k,rfl⟩:∃k:Nat,t=k:=⟨t.toNat,by omega⟩
 have hk:k<51:=by omega
 cases b
 ·match k,hk with
  |0,_=>exact W_f0r w hw
  |1,_=>exact W_f1r w hw
  |2,_=>exact W_f2r w hw
  |3,_=>exact W_f3r w hw
  |4,_=>exact W_f4r w hw
  |5,_=>exact W_f5r w hw
  |6,_=>exact W_f6r w hw
  |7,_=>exact W_f7r w hw
  |8,_=>exact W_f8r w hw
  |9,_=>exact W_f9r w hw
  |10,_=>exact W_f10r w hw
  |11,_=>exact W_f11r w hw
  |12,_=>exact W_f12r w hw
  |13,_=>exact W_f13r w hw
  |14,_=>exact W_f14r w hw
  |15,_=>exact W_f15r w hw
  |16,_=>exact W_f16r w hw
  |17,_=>exact W_f17r w hw
  |18,_=>exact W_f18r w hw
  |19,_=>exact W_f19r w hw
  |20,_=>exact W_f20r w hw
  |21,_=>exact W_f21r w hw
  |22,_=>exact W_f22r w hw
  |23,_=>exact W_f23r w hw
  |24,_=>exact W_f24r w hw
  |25,_=>exact W_f25r w hw
  |26,_=>exact W_f26r w hw
  |27,_=>exact W_f27r w hw
  |28,_=>exact W_f28r w hw
  |29,_=>exact W_f29r w hw
  |30,_=>exact W_f30r w hw
  |31,_=>exact W_f31r w hw
  |32,_=>exact W_f32r w hw
  |33,_=>exact W_f33r w hw
  |34,_=>exact W_f34r w hw
  |35,_=>exact W_f35r w hw
  |36,_=>exact W_f36r w hw
  |37,_=>exact W_f37r w hw
  |38,_=>exact W_f38r w hw
  |39,_=>exact W_f39r w hw
  |40,_=>exact W_f40r w hw
  |41,_=>exact W_f41r w hw
  |42,_=>exact W_f42r w hw
  |43,_=>exact W_f43r w hw
  |44,_=>exact W_f44r w hw
  |45,_=>exact W_f45r w hw
  |46,_=>exact W_f46r w hw
  |47,_=>exact W_f47r w hw
  |48,_=>exact W_f48r w hw
  |49,_=>exact W_f49r w hw
  |50,_=>exact W_f50r w hw
  |k+51,h=>omega
 ·match k,hk with
  |0,_=>exact W_t0r w hw
  |1,_=>exact W_t1r w hw
  |2,_=>exact W_t2r w hw
  |3,_=>exact W_t3r w hw
  |4,_=>exact W_t4r w hw
  |5,_=>exact W_t5r w hw
  |6,_=>exact W_t6r w hw
  |7,_=>exact W_t7r w hw
  |8,_=>exact W_t8r w hw
  |9,_=>exact W_t9r w hw
  |10,_=>exact W_t10r w hw
  |11,_=>exact W_t11r w hw
  |12,_=>exact W_t12r w hw
  |13,_=>exact W_t13r w hw
  |14,_=>exact W_t14r w hw
  |15,_=>exact W_t15r w hw
  |16,_=>exact W_t16r w hw
  |17,_=>exact W_t17r w hw
  |18,_=>exact W_t18r w hw
  |19,_=>exact W_t19r w hw
  |20,_=>exact W_t20r w hw
  |21,_=>exact W_t21r w hw
  |22,_=>exact W_t22r w hw
  |23,_=>exact W_t23r w hw
  |24,_=>exact W_t24r w hw
  |25,_=>exact W_t25r w hw
  |26,_=>exact W_t26r w hw
  |27,_=>exact W_t27r w hw
  |28,_=>exact W_t28r w hw
  |29,_=>exact W_t29r w hw
  |30,_=>exact W_t30r w hw
  |31,_=>exact W_t31r w hw
  |32,_=>exact W_t32r w hw
  |33,_=>exact W_t33r w hw
  |34,_=>exact W_t34r w hw
  |35,_=>exact W_t35r w hw
  |36,_=>exact W_t36r w hw
  |37,_=>exact W_t37r w hw
  |38,_=>exact W_t38r w hw
  |39,_=>exact W_t39r w hw
  |40,_=>exact W_t40r w hw
  |41,_=>exact W_t41r w hw
  |42,_=>exact W_t42r w hw
  |43,_=>exact W_t43r w hw
  |44,_=>exact W_t44r w hw
  |45,_=>exact W_t45r w hw
  |46,_=>exact W_t46r w hw
  |47,_=>exact W_t47r w hw
  |48,_=>exact W_t48r w hw
  |49,_=>exact W_t49r w hw
  |50,_=>exact W_t50r w hw
  |k+51,h=>omega
end
end Go.Proofs.YtdegbhgoldglaaaGreatDoor
namespace Go.Proofs.YtdegbhgoldglaaaGreatDoor
open Go Go.Eng
theorem lawNW_run {w:World} (hgl:GlW glC w) {args:Array Value} {x:DenL [.bool,.int .i64]} (hx:RdAll (fzW w) [.bool,.int .i64] x args.toList) (_:BdL [.bool,.int .i64] x):Calls Tryz.prog 5 args w fun e w'=>e=.returned (.bool true)∧Same w w':=by
 obtain⟨v,r,h1,h2,v2,r2,h4,h5,h6⟩:=hx;have e1:v=.bool x.1:=by
  rcases h2 with⟨h,_⟩|⟨_,h⟩
  ·cases h
  ·exact(List.cons.inj h).1
 have e2:v2=.int .i64 x.2.1:=by
  rcases h5 with⟨h,_⟩|⟨_,h⟩
  ·cases h
  ·exact(List.cons.inj h).1
 have h6:r2=[]:=h6;have:args=#[.bool x.1,.int .i64 x.2.1]:=Array.ext' (by rw[h1,h4,h6,e1,e2]);rw[this];exact nw_run _ _ w hgl
end Go.Proofs.YtdegbhgoldglaaaGreatDoor
