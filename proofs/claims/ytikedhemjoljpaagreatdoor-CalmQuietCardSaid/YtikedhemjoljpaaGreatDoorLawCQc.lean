/-
  armariumlaw22.CalmQuiet: the law up to where words are on their way. No condition.
-/
import Derived.Test.YtikedhemjoljpaaGreatDoorLawCQ0
namespace Go.Proofs.YtikedhemjoljpaaGreatDoor
noncomputable section
open Go Go.Eng
set_option maxRecDepth 1000000
theorem ap0 (n t : Int) : X1 n t 1000 = R1 n t 0 0 := by kernel_rfl
theorem ap1 (n t : Int) : X1 n t 1001 = R1 n t 1 1 := by kernel_rfl
theorem ap2 (n t : Int) : X1 n t 1002 = R1 n t 2 2 := by kernel_rfl
theorem ap3 (n t : Int) : X1 n t 1003 = R1 n t 3 3 := by kernel_rfl
theorem ap4 (n t : Int) : X1 n t 1004 = R1 n t 4 4 := by kernel_rfl
theorem ap5 (n t : Int) : X1 n t 1005 = R1 n t 5 5 := by kernel_rfl
theorem ap6 (n t : Int) : X1 n t 1006 = R1 n t 6 6 := by kernel_rfl
theorem ap7 (n t : Int) : X1 n t 1007 = R1 n t 7 7 := by kernel_rfl
theorem ap8 (n t : Int) : X1 n t 1008 = R1 n t 8 8 := by kernel_rfl
theorem ap9 (n t : Int) : X1 n t 1009 = R1 n t 9 9 := by kernel_rfl
theorem ap10 (n t : Int) : X1 n t 1010 = R1 n t 10 10 := by kernel_rfl
theorem ap11 (n t : Int) : X1 n t 1011 = R1 n t 11 11 := by kernel_rfl
theorem ap12 (n t : Int) : X1 n t 1012 = R1 n t 12 12 := by kernel_rfl
theorem ap13 (n t : Int) : X1 n t 1013 = R1 n t 13 13 := by kernel_rfl
theorem ap14 (n t : Int) : X1 n t 1014 = R1 n t 14 14 := by kernel_rfl
theorem ap15 (n t : Int) : X1 n t 1015 = R1 n t 15 15 := by kernel_rfl
theorem ap16 (n t : Int) : X1 n t 1016 = R1 n t 16 16 := by kernel_rfl
theorem ap17 (n t : Int) : X1 n t 1017 = R1 n t 17 17 := by kernel_rfl
theorem ap18 (n t : Int) : X1 n t 1018 = R1 n t 18 18 := by kernel_rfl
theorem ap19 (n t : Int) : X1 n t 1019 = R1 n t 19 19 := by kernel_rfl
theorem ap20 (n t : Int) : X1 n t 1020 = R1 n t 20 20 := by kernel_rfl
theorem ap21 (n t : Int) : X1 n t 1021 = R1 n t 21 21 := by kernel_rfl
theorem ap22 (n t : Int) : X1 n t 1022 = R1 n t 22 22 := by kernel_rfl
theorem ap23 (n t : Int) : X1 n t 1023 = R1 n t 23 23 := by kernel_rfl
theorem ap24 (n t : Int) : X1 n t 1024 = R1 n t 24 24 := by kernel_rfl
theorem ap25 (n t : Int) : X1 n t 1025 = R1 n t 25 25 := by kernel_rfl
theorem ap26 (n t : Int) : X1 n t 1026 = R1 n t 26 26 := by kernel_rfl
theorem ap27 (n t : Int) : X1 n t 1027 = R1 n t 27 27 := by kernel_rfl
theorem ap28 (n t : Int) : X1 n t 1028 = R1 n t 28 28 := by kernel_rfl
theorem ap29 (n t : Int) : X1 n t 1029 = R1 n t 29 29 := by kernel_rfl
theorem an1 (n t : Int) : X1 n t 2000 = R1 n t (-1) 29 := by kernel_rfl
theorem an2 (n t : Int) : X1 n t 2001 = R1 n t (-2) 28 := by kernel_rfl
theorem an3 (n t : Int) : X1 n t 2002 = R1 n t (-3) 27 := by kernel_rfl
theorem an4 (n t : Int) : X1 n t 2003 = R1 n t (-4) 26 := by kernel_rfl
theorem an5 (n t : Int) : X1 n t 2004 = R1 n t (-5) 25 := by kernel_rfl
theorem an6 (n t : Int) : X1 n t 2005 = R1 n t (-6) 24 := by kernel_rfl
theorem an7 (n t : Int) : X1 n t 2006 = R1 n t (-7) 23 := by kernel_rfl
theorem an8 (n t : Int) : X1 n t 2007 = R1 n t (-8) 22 := by kernel_rfl
theorem an9 (n t : Int) : X1 n t 2008 = R1 n t (-9) 21 := by kernel_rfl
theorem an10 (n t : Int) : X1 n t 2009 = R1 n t (-10) 20 := by kernel_rfl
theorem an11 (n t : Int) : X1 n t 2010 = R1 n t (-11) 19 := by kernel_rfl
theorem an12 (n t : Int) : X1 n t 2011 = R1 n t (-12) 18 := by kernel_rfl
theorem an13 (n t : Int) : X1 n t 2012 = R1 n t (-13) 17 := by kernel_rfl
theorem an14 (n t : Int) : X1 n t 2013 = R1 n t (-14) 16 := by kernel_rfl
theorem an15 (n t : Int) : X1 n t 2014 = R1 n t (-15) 15 := by kernel_rfl
theorem an16 (n t : Int) : X1 n t 2015 = R1 n t (-16) 14 := by kernel_rfl
theorem an17 (n t : Int) : X1 n t 2016 = R1 n t (-17) 13 := by kernel_rfl
theorem an18 (n t : Int) : X1 n t 2017 = R1 n t (-18) 12 := by kernel_rfl
theorem an19 (n t : Int) : X1 n t 2018 = R1 n t (-19) 11 := by kernel_rfl
theorem an20 (n t : Int) : X1 n t 2019 = R1 n t (-20) 10 := by kernel_rfl
theorem an21 (n t : Int) : X1 n t 2020 = R1 n t (-21) 9 := by kernel_rfl
theorem an22 (n t : Int) : X1 n t 2021 = R1 n t (-22) 8 := by kernel_rfl
theorem an23 (n t : Int) : X1 n t 2022 = R1 n t (-23) 7 := by kernel_rfl
theorem an24 (n t : Int) : X1 n t 2023 = R1 n t (-24) 6 := by kernel_rfl
theorem an25 (n t : Int) : X1 n t 2024 = R1 n t (-25) 5 := by kernel_rfl
theorem an26 (n t : Int) : X1 n t 2025 = R1 n t (-26) 4 := by kernel_rfl
theorem an27 (n t : Int) : X1 n t 2026 = R1 n t (-27) 3 := by kernel_rfl
theorem an28 (n t : Int) : X1 n t 2027 = R1 n t (-28) 2 := by kernel_rfl
theorem an29 (n t : Int) : X1 n t 2028 = R1 n t (-29) 1 := by kernel_rfl
theorem bq0 (n t : Int) : X2 n t 0 = R2 t 0 := by kernel_rfl
theorem bq1 (n t : Int) : X2 n t 1 = R2 t 1 := by kernel_rfl
theorem bq2 (n t : Int) : X2 n t 2 = R2 t 2 := by kernel_rfl
theorem bq3 (n t : Int) : X2 n t 3 = R2 t 3 := by kernel_rfl
theorem bq4 (n t : Int) : X2 n t 4 = R2 t 4 := by kernel_rfl
theorem bq5 (n t : Int) : X2 n t 5 = R2 t 5 := by kernel_rfl
theorem bq6 (n t : Int) : X2 n t 6 = R2 t 6 := by kernel_rfl
theorem bq7 (n t : Int) : X2 n t 7 = R2 t 7 := by kernel_rfl
theorem bq8 (n t : Int) : X2 n t 8 = R2 t 8 := by kernel_rfl
theorem bq9 (n t : Int) : X2 n t 9 = R2 t 9 := by kernel_rfl
theorem bq10 (n t : Int) : X2 n t 10 = R2 t 10 := by kernel_rfl
theorem bq11 (n t : Int) : X2 n t 11 = R2 t 11 := by kernel_rfl
theorem bq12 (n t : Int) : X2 n t 12 = R2 t 12 := by kernel_rfl
theorem bq13 (n t : Int) : X2 n t 13 = R2 t 13 := by kernel_rfl
theorem bq14 (n t : Int) : X2 n t 14 = R2 t 14 := by kernel_rfl
theorem bq15 (n t : Int) : X2 n t 15 = R2 t 15 := by kernel_rfl
theorem bq16 (n t : Int) : X2 n t 16 = R2 t 16 := by kernel_rfl
theorem bq17 (n t : Int) : X2 n t 17 = R2 t 17 := by kernel_rfl
theorem bq18 (n t : Int) : X2 n t 18 = R2 t 18 := by kernel_rfl
theorem bq19 (n t : Int) : X2 n t 19 = R2 t 19 := by kernel_rfl
theorem bq20 (n t : Int) : X2 n t 20 = R2 t 20 := by kernel_rfl
theorem bq21 (n t : Int) : X2 n t 21 = R2 t 21 := by kernel_rfl
theorem bq22 (n t : Int) : X2 n t 22 = R2 t 22 := by kernel_rfl
theorem bq23 (n t : Int) : X2 n t 23 = R2 t 23 := by kernel_rfl
theorem bq24 (n t : Int) : X2 n t 24 = R2 t 24 := by kernel_rfl
theorem bq25 (n t : Int) : X2 n t 25 = R2 t 25 := by kernel_rfl
theorem bq26 (n t : Int) : X2 n t 26 = R2 t 26 := by kernel_rfl
theorem bq27 (n t : Int) : X2 n t 27 = R2 t 27 := by kernel_rfl
theorem bq28 (n t : Int) : X2 n t 28 = R2 t 28 := by kernel_rfl
theorem bq29 (n t : Int) : X2 n t 29 = R2 t 29 := by kernel_rfl
end
end Go.Proofs.YtikedhemjoljpaaGreatDoor
