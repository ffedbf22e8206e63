/-
  Part of the proof: ShelfJ Lib15J. No condition.
-/
import Derived.Shelf.LaysM
import Derived.Shelf.Strconv.Itoa3
import Derived.Shelf.Strconv.Itoa4
import Derived.Shelf.Strings.OnBuilder
import Derived.Test.YtpdbgpkedehpgaaGreatDoorProg
import Derived.Test.YtpdbgpkedehpgaaGreatDoorA5
import Derived.Test.YtpdbgpkedehpgaaGreatDoorA7
namespace Go.Proofs
open Go.Shelf
def Tryz.lays156_ren : Go.Shelf.Ren := ⟨fun | 156 => 87 | 165 => 126 | 166 => 127 | 169 => 128 | 240 => 194 | 241 => 195 | 276 => 237 | 277 => 238 | n => n, fun | 31 => 64 | 9 => 9 | 3 => 3 | 4 => 4 | 0 => 0 | 20 => 20 | 72 => 177 | 76 => 102 | 70 => 175 | 37 => 32 | 75 => 101 | 127 => 251 | 164 => 285 | 5 => 5 | 80 => 111 | n => n, fun | n => n⟩
theorem Tryz.lays156 : Go.Proofs.Lays.n156 Tryz.prog Tryz.lays156_ren := {
  mixed := by kernel_rfl
  f156 := Tryz.func87.trans (congrArg some (by kernel_rfl))
  f165 := Tryz.func126.trans (congrArg some (by kernel_rfl))
  f166 := Tryz.func127.trans (congrArg some (by kernel_rfl))
  f169 := Tryz.func128.trans (congrArg some (by kernel_rfl))
  f240 := Tryz.func194.trans (congrArg some (by kernel_rfl))
  f241 := Tryz.func195.trans (congrArg some (by kernel_rfl))
  f276 := Tryz.func237.trans (congrArg some (by kernel_rfl))
  f277 := Tryz.func238.trans (congrArg some (by kernel_rfl))
  t0 := Tryz.underlying0
  a0 := Tryz.isAgg0
  z0 := Tryz.sizeOf0
  v0 := Tryz.zeroValue0
  t3 := Tryz.underlying3
  a3 := Tryz.isAgg3
  z3 := Tryz.sizeOf3
  v3 := Tryz.zeroValue3
  t4 := Tryz.underlying4
  a4 := Tryz.isAgg4
  z4 := Tryz.sizeOf4
  v4 := Tryz.zeroValue4
  t9 := Tryz.underlying9
  a9 := Tryz.isAgg9
  z9 := Tryz.sizeOf9
  v9 := Tryz.zeroValue9
  t20 := Tryz.underlying20
  a20 := Tryz.isAgg20
  z20 := Tryz.sizeOf20
  v20 := Tryz.zeroValue20
  t31 := Tryz.underlying64
  a31 := Tryz.isAgg64
  z31 := Tryz.sizeOf64
  v31 := Tryz.zeroValue64
  t37 := Tryz.underlying32
  a37 := Tryz.isAgg32
  z37 := Tryz.sizeOf32
  v37 := Tryz.zeroValue32
  t70 := Tryz.underlying175
  a70 := Tryz.isAgg175
  z70 := Tryz.sizeOf175
  v70 := Tryz.zeroValue175
  t72 := Tryz.underlying177
  a72 := Tryz.isAgg177
  z72 := Tryz.sizeOf177
  v72 := Tryz.zeroValue177
  t75 := Tryz.underlying101
  a75 := Tryz.isAgg101
  z75 := Tryz.sizeOf101
  v75 := Tryz.zeroValue101
  t76 := Tryz.underlying102
  a76 := Tryz.isAgg102
  z76 := Tryz.sizeOf102
  v76 := Tryz.zeroValue102
  t127 := Tryz.underlying251
  a127 := Tryz.isAgg251
  z127 := Tryz.sizeOf251
  v127 := Tryz.zeroValue251
  t164 := Tryz.underlying285
  a164 := Tryz.isAgg285
  z164 := Tryz.sizeOf285
  v164 := Tryz.zeroValue285 }
theorem Tryz.Builder_Extra_156 : Builder.Extra Tryz.prog Tryz.lays156_ren := {
  sizeBuilder := by kernel_rfl
  liesBuilder := by kernel_rfl
  t5 := Tryz.underlying5
  a5 := Tryz.isAgg5
  z5 := Tryz.sizeOf5
  v5 := Tryz.zeroValue5
  infoByte := by kernel_rfl
  cellsByte := by kernel_rfl
  sizeByte := by kernel_rfl
  neB5 := by decide }
open Go.RowKit in
/-- No element: the empty string; the world is as it was. (Whatever the slice's address and capacity: a nil slice too.) (LAID: no walk: one application.) -/
theorem Tryz.strings_Join_none (a : Option Addr) (c : Nat) (sep : ByteArray) (w : World) :
    Calls Tryz.prog 87 #[.slice a 0 c, .string sep] w fun e w' => e = .returned (.string ⟨#[]⟩) ∧ w' = w := Any.strings_Join_none Tryz.lays156 Tryz.Builder_Extra_156 a c sep w
open Go.RowKit in
/-- strings.Join: "Join concatenates the elements of its first argument to create a single string. The separator string sep is placed between elements in the resulting string.": HOWEVER MANY ELEMENTS. Below the heap's end the world is as it was. (LAID: no walk: one application.) -/
theorem Tryz.strings_Join (bk o c : Nat) (xs : List ByteArray) (sep : ByteArray) (w : World) (hcells : ∀ (j : Nat) x, xs[j]? = some x → w.cell? ⟨bk, o + j, none⟩ = some (.string x)) (hbk : bk < w.heap.size) (hN : xs.length ≤ 140737488355328) (hcap : xs.length ≤ c) (hlen : (Lib.join (xs.map (·.data.toList)) sep.data.toList).length ≤ 140737488355328) :
    Calls Tryz.prog 87 #[.slice (some ⟨bk, o, none⟩) xs.length c, .string sep] w fun e w' => e = .returned (.string ⟨(Lib.join (xs.map (·.data.toList)) sep.data.toList).toArray⟩) ∧ Below w.heap.size w w' := Any.strings_Join Tryz.lays156 Tryz.Builder_Extra_156 bk o c xs sep w hcells hbk hN hcap hlen
def Tryz.laysM171_ren : Go.Shelf.Ren := ⟨fun | 171 => 61 | 243 => 88 | 246 => 86 | 283 => 122 | 284 => 123 | 285 => 124 | 286 => 125 | 129 => 190 | 317 => 189 | 318 => 191 | 319 => 192 | 320 => 193 | 337 => 235 | 338 => 236 | n => n, fun | 3 => 3 | 9 => 9 | 2 => 2 | 4 => 4 | 171 => 170 | 0 => 0 | 53 => 74 | 37 => 32 | 5 => 5 | 173 => 173 | 212 => 245 | 51 => 246 | 20 => 20 | 213 => 247 | 46 => 249 | 232 => 310 | 233 => 311 | n => n, fun | 17 => 0 | 18 => 4 | 19 => 5 | n => n⟩
theorem Tryz.laysM171 : Go.Proofs.LaysM.n171 Tryz.prog Tryz.laysM171_ren := {
  mixed := by kernel_rfl
  f129 := Tryz.func190.trans (congrArg some (by kernel_rfl))
  f171 := Tryz.func61.trans (congrArg some (by kernel_rfl))
  f243 := Tryz.func88.trans (congrArg some (by kernel_rfl))
  f246 := Tryz.func86.trans (congrArg some (by kernel_rfl))
  f283 := Tryz.func122.trans (congrArg some (by kernel_rfl))
  f284 := Tryz.func123.trans (congrArg some (by kernel_rfl))
  f285 := Tryz.func124.trans (congrArg some (by kernel_rfl))
  f286 := Tryz.func125.trans (congrArg some (by kernel_rfl))
  f317 := Tryz.func189.trans (congrArg some (by kernel_rfl))
  f318 := Tryz.func191.trans (congrArg some (by kernel_rfl))
  f319 := Tryz.func192.trans (congrArg some (by kernel_rfl))
  f320 := Tryz.func193.trans (congrArg some (by kernel_rfl))
  f337 := Tryz.func235.trans (congrArg some (by kernel_rfl))
  f338 := Tryz.func236.trans (congrArg some (by kernel_rfl))
  t0 := Tryz.underlying0
  a0 := Tryz.isAgg0
  z0 := Tryz.sizeOf0
  v0 := Tryz.zeroValue0
  t2 := Tryz.underlying2
  a2 := Tryz.isAgg2
  z2 := Tryz.sizeOf2
  v2 := Tryz.zeroValue2
  t3 := Tryz.underlying3
  a3 := Tryz.isAgg3
  z3 := Tryz.sizeOf3
  v3 := Tryz.zeroValue3
  t4 := Tryz.underlying4
  a4 := Tryz.isAgg4
  z4 := Tryz.sizeOf4
  v4 := Tryz.zeroValue4
  t5 := Tryz.underlying5
  a5 := Tryz.isAgg5
  z5 := Tryz.sizeOf5
  v5 := Tryz.zeroValue5
  t9 := Tryz.underlying9
  a9 := Tryz.isAgg9
  z9 := Tryz.sizeOf9
  v9 := Tryz.zeroValue9
  t20 := Tryz.underlying20
  a20 := Tryz.isAgg20
  z20 := Tryz.sizeOf20
  v20 := Tryz.zeroValue20
  t37 := Tryz.underlying32
  a37 := Tryz.isAgg32
  z37 := Tryz.sizeOf32
  v37 := Tryz.zeroValue32
  t46 := Tryz.underlying249
  a46 := Tryz.isAgg249
  z46 := Tryz.sizeOf249
  v46 := Tryz.zeroValue249
  t51 := Tryz.underlying246
  a51 := Tryz.isAgg246
  z51 := Tryz.sizeOf246
  v51 := Tryz.zeroValue246
  t53 := Tryz.underlying74
  a53 := Tryz.isAgg74
  z53 := Tryz.sizeOf74
  v53 := Tryz.zeroValue74
  t171 := Tryz.underlying170
  a171 := Tryz.isAgg170
  z171 := Tryz.sizeOf170
  v171 := Tryz.zeroValue170
  t173 := Tryz.underlying173
  a173 := Tryz.isAgg173
  z173 := Tryz.sizeOf173
  v173 := Tryz.zeroValue173
  t212 := Tryz.underlying245
  a212 := Tryz.isAgg245
  z212 := Tryz.sizeOf245
  v212 := Tryz.zeroValue245
  t213 := Tryz.underlying247
  a213 := Tryz.isAgg247
  z213 := Tryz.sizeOf247
  t232 := Tryz.underlying310
  a232 := Tryz.isAgg310
  z232 := Tryz.sizeOf310
  v232 := Tryz.zeroValue310
  t233 := Tryz.underlying311
  a233 := Tryz.isAgg311
  z233 := Tryz.sizeOf311
  v233 := Tryz.zeroValue311
  g17 := by kernel_rfl
  g18 := by kernel_rfl
  g19 := by kernel_rfl
  i0 := by kernel_rfl
  i2 := by kernel_rfl
  i3 := by kernel_rfl
  i4 := by kernel_rfl
  i5 := by kernel_rfl
  i9 := by kernel_rfl
  i20 := by kernel_rfl
  i37 := by kernel_rfl
  i46 := by kernel_rfl
  i51 := by kernel_rfl
  i53 := by kernel_rfl
  i171 := by kernel_rfl
  i173 := by kernel_rfl
  i212 := by kernel_rfl
  i232 := by kernel_rfl
  i233 := by kernel_rfl
  m17 := by kernel_rfl
  m18 := by kernel_rfl
  m19 := by kernel_rfl }
open Go.RowKit Go.Sort Go.Lib in
/-- strconv.Itoa: "Itoa is equivalent to FormatInt(int64(i), 10).": i's DECIMAL NUMERAL ('Lib.itoa': a '-' where i is negative, then the digits), FOR EVERY int. The world behind the call: the world before it, new blocks behind the heap (the library's 'var a [24]byte'), draws. (LAID: no walk: one application.) -/
theorem Tryz.strconv_Itoa (n : Int) (h0 : -9223372036854775808 ≤ n) (h1 : n ≤ 9223372036854775807) (w : World) (htab : Lib.TabIs Tryz.prog w "internal/strconv.uint64pow10" .u64 Lib.pow10Tab) :
    Calls Tryz.prog 61 #[.int .i64 n] w fun e w' => e = .returned (.string ⟨(Lib.itoa n).toArray⟩) ∧ ∃ k os, w' = grow (w.drewN k) os := Any.strconv_Itoa Tryz.laysM171 n h0 h1 w htab
def Tryz.laysM173_ren : Go.Shelf.Ren := ⟨fun | 173 => 59 | 246 => 86 | 283 => 122 | 284 => 123 | 285 => 124 | 286 => 125 | 129 => 190 | 317 => 189 | 318 => 191 | 319 => 192 | 320 => 193 | 337 => 235 | 338 => 236 | n => n, fun | 2 => 2 | 3 => 3 | 9 => 9 | 4 => 4 | 171 => 170 | 0 => 0 | 53 => 74 | 37 => 32 | 5 => 5 | 173 => 173 | 212 => 245 | 51 => 246 | 20 => 20 | 213 => 247 | 46 => 249 | 232 => 310 | 233 => 311 | n => n, fun | 17 => 0 | 18 => 4 | 19 => 5 | n => n⟩
theorem Tryz.laysM173 : Go.Proofs.LaysM.n173 Tryz.prog Tryz.laysM173_ren := {
  mixed := by kernel_rfl
  f129 := Tryz.func190.trans (congrArg some (by kernel_rfl))
  f173 := Tryz.func59.trans (congrArg some (by kernel_rfl))
  f246 := Tryz.func86.trans (congrArg some (by kernel_rfl))
  f283 := Tryz.func122.trans (congrArg some (by kernel_rfl))
  f284 := Tryz.func123.trans (congrArg some (by kernel_rfl))
  f285 := Tryz.func124.trans (congrArg some (by kernel_rfl))
  f286 := Tryz.func125.trans (congrArg some (by kernel_rfl))
  f317 := Tryz.func189.trans (congrArg some (by kernel_rfl))
  f318 := Tryz.func191.trans (congrArg some (by kernel_rfl))
  f319 := Tryz.func192.trans (congrArg some (by kernel_rfl))
  f320 := Tryz.func193.trans (congrArg some (by kernel_rfl))
  f337 := Tryz.func235.trans (congrArg some (by kernel_rfl))
  f338 := Tryz.func236.trans (congrArg some (by kernel_rfl))
  t0 := Tryz.underlying0
  a0 := Tryz.isAgg0
  z0 := Tryz.sizeOf0
  v0 := Tryz.zeroValue0
  t2 := Tryz.underlying2
  a2 := Tryz.isAgg2
  z2 := Tryz.sizeOf2
  v2 := Tryz.zeroValue2
  t3 := Tryz.underlying3
  a3 := Tryz.isAgg3
  z3 := Tryz.sizeOf3
  v3 := Tryz.zeroValue3
  t4 := Tryz.underlying4
  a4 := Tryz.isAgg4
  z4 := Tryz.sizeOf4
  v4 := Tryz.zeroValue4
  t5 := Tryz.underlying5
  a5 := Tryz.isAgg5
  z5 := Tryz.sizeOf5
  v5 := Tryz.zeroValue5
  t9 := Tryz.underlying9
  a9 := Tryz.isAgg9
  z9 := Tryz.sizeOf9
  v9 := Tryz.zeroValue9
  t20 := Tryz.underlying20
  a20 := Tryz.isAgg20
  z20 := Tryz.sizeOf20
  v20 := Tryz.zeroValue20
  t37 := Tryz.underlying32
  a37 := Tryz.isAgg32
  z37 := Tryz.sizeOf32
  v37 := Tryz.zeroValue32
  t46 := Tryz.underlying249
  a46 := Tryz.isAgg249
  z46 := Tryz.sizeOf249
  v46 := Tryz.zeroValue249
  t51 := Tryz.underlying246
  a51 := Tryz.isAgg246
  z51 := Tryz.sizeOf246
  v51 := Tryz.zeroValue246
  t53 := Tryz.underlying74
  a53 := Tryz.isAgg74
  z53 := Tryz.sizeOf74
  v53 := Tryz.zeroValue74
  t171 := Tryz.underlying170
  a171 := Tryz.isAgg170
  z171 := Tryz.sizeOf170
  v171 := Tryz.zeroValue170
  t173 := Tryz.underlying173
  a173 := Tryz.isAgg173
  z173 := Tryz.sizeOf173
  v173 := Tryz.zeroValue173
  t212 := Tryz.underlying245
  a212 := Tryz.isAgg245
  z212 := Tryz.sizeOf245
  v212 := Tryz.zeroValue245
  t213 := Tryz.underlying247
  a213 := Tryz.isAgg247
  z213 := Tryz.sizeOf247
  t232 := Tryz.underlying310
  a232 := Tryz.isAgg310
  z232 := Tryz.sizeOf310
  v232 := Tryz.zeroValue310
  t233 := Tryz.underlying311
  a233 := Tryz.isAgg311
  z233 := Tryz.sizeOf311
  v233 := Tryz.zeroValue311
  g17 := by kernel_rfl
  g18 := by kernel_rfl
  g19 := by kernel_rfl
  i0 := by kernel_rfl
  i2 := by kernel_rfl
  i3 := by kernel_rfl
  i4 := by kernel_rfl
  i5 := by kernel_rfl
  i9 := by kernel_rfl
  i20 := by kernel_rfl
  i37 := by kernel_rfl
  i46 := by kernel_rfl
  i51 := by kernel_rfl
  i53 := by kernel_rfl
  i171 := by kernel_rfl
  i173 := by kernel_rfl
  i212 := by kernel_rfl
  i232 := by kernel_rfl
  i233 := by kernel_rfl
  m17 := by kernel_rfl
  m18 := by kernel_rfl
  m19 := by kernel_rfl }
open Go.RowKit Go.Sort Go.Lib in
/-- strconv.FormatInt: "FormatInt returns the string representation of i in the given base": AT BASE 10: i's decimal numeral, for every int64. (LAID: no walk: one application.) -/
theorem Tryz.strconv_FormatInt_10 (n : Int) (h0 : -9223372036854775808 ≤ n) (h1 : n ≤ 9223372036854775807) (w : World) (htab : Lib.TabIs Tryz.prog w "internal/strconv.uint64pow10" .u64 Lib.pow10Tab) :
    Calls Tryz.prog 59 #[.int .i64 n, .int .i64 10] w fun e w' => e = .returned (.string ⟨(Lib.itoa n).toArray⟩) ∧ ∃ k os, w' = grow (w.drewN k) os := Any.strconv_FormatInt_10 Tryz.laysM173 n h0 h1 w htab
end Go.Proofs
namespace Go.Proofs.YtpdbgpkedehpgaaGreatDoor
open Go Go.Eng Nice Go.RowKit Go.Sort
set_option maxRecDepth 1000000
theorem pow10C_eq : pow10C = Lib.pow10Tab.map fun z => Value.int .u64 z := by kernel_rfl
theorem pow10_at : Tryz.prog.globalNamed "internal/strconv.uint64pow10" = some 0 := by kernel_rfl
theorem glTab {w : World} (hgl : GlW glC w) : Lib.TabIs Tryz.prog w "internal/strconv.uint64pow10" .u64 Lib.pow10Tab := by
  obtain ⟨c, e, fr, h1, h2⟩ := hgl.2 (0, pow10C) (by simp [glC])
  unfold Lib.TabIs World.var?
  rw [pow10_at]
  simp only [Option.bind_some, h1]
  congr 1
  rw [← pow10C_eq]
  apply Array.ext
  · simpa using h2
  · intro i hi hj
    have hj' : i < pow10C.length := by simpa using hj
    obtain ⟨u, hu, hg⟩ := hgl.1 (0, pow10C) (by simp [glC]) i pow10C[i] (List.getElem?_eq_getElem hj')
    have hz : ∃ z, pow10C[i] = Value.int .u64 z := by
      have hm : pow10C[i] ∈ Lib.pow10Tab.map fun z => Value.int .u64 z := by rw [← pow10C_eq]; exact List.getElem_mem hj'
      obtain ⟨z, _, hz⟩ := List.mem_map.1 hm
      exact ⟨z, hz.symm⟩
    obtain ⟨z, hz⟩ := hz
    have e : u = pow10C[i] := by
      rcases hg with ⟨_, h⟩ | ⟨b, he, _⟩ | ⟨k, m, he, _⟩
      · exact h
      · rw [hz] at he; cases he
      · rw [hz] at he; cases he
    simp only [World.cell?, h1] at hu
    have : c[i]? = some u := by simpa using hu
    rw [Array.getElem?_eq_getElem hi] at this
    rw [Option.some.inj this, e]
    simp
theorem same_grow (w : World) (k : Nat) (os : Array Obj) : Same w (grow (w.drewN k) os) := by
  refine ⟨?_, rfl, rfl, fun b hb => ?_⟩
  · show w.heap.size ≤ (w.heap ++ os).size
    simp
  · show (w.heap ++ os)[b]? = w.heap[b]?
    rw [Array.getElem?_append_left hb]
theorem i64P_iff {n : Int} : i64P n = true ↔ -9223372036854775808 ≤ n ∧ n ≤ 9223372036854775807 := by
  unfold i64P; rw [Bool.and_eq_true, decide_eq_true_eq, decide_eq_true_eq]
theorem itoa_c : PC 61 itoaS := pc_mk fun fz w args x hgl hr hp => by
  obtain ⟨n, ⟨⟩⟩ := x
  obtain ⟨h0, h1⟩ := i64P_iff.1 hp
  obtain ⟨_, r3, e1, g1, hr1⟩ := rd_cons' rfl hr
  obtain rfl : r3 = [] := hr1
  cases g1
  have ha : args = #[.int .i64 n] := Array.toList_inj.1 e1
  subst ha
  refine (Tryz.strconv_Itoa n h0 h1 w (glTab hgl)).mono ?_
  rintro e w' ⟨rfl, k, os, rfl⟩
  exact ⟨[.string (bs (Lib.itoa n))], rfl, ⟨_, _, rfl, .inr ⟨rfl, rfl⟩, rfl⟩, same_grow _ _ _⟩
theorem fmt_c : PC 59 fmtS := pc_mk fun fz w args x hgl hr hp => by
  obtain ⟨n, m, ⟨⟩⟩ := x
  have hp' : (i64P n && m == (10 : Int)) = true := hp
  clear hp
  rw [Bool.and_eq_true, beq_iff_eq] at hp'
  obtain ⟨hp, rfl⟩ := hp'
  obtain ⟨h0, h1⟩ := i64P_iff.1 hp
  obtain ⟨_, _, e1, g1, hr1⟩ := rd_cons' rfl hr
  obtain ⟨_, r3, rfl, g2, hr2⟩ := rd_cons' rfl hr1
  obtain rfl : r3 = [] := hr2
  cases g1; cases g2
  have ha : args = #[.int .i64 n, .int .i64 10] := Array.toList_inj.1 e1
  subst ha
  refine (Tryz.strconv_FormatInt_10 n h0 h1 w (glTab hgl)).mono ?_
  rintro e w' ⟨rfl, k, os, rfl⟩
  exact ⟨[.string (bs (Lib.itoa n))], rfl, ⟨_, _, rfl, .inr ⟨rfl, rfl⟩, rfl⟩, same_grow _ _ _⟩
theorem join_c : PC 87 joinS := by
  intro fz w args x hfz hgl hr hp
  obtain ⟨l, s, ⟨⟩⟩ := x
  have hp : joinP l s = true := hp
  unfold joinP at hp
  rw [Bool.and_eq_true, decide_eq_true_eq, decide_eq_true_eq] at hp
  obtain ⟨_, _, e1, g1, hr1⟩ := rd_cons' rfl hr
  obtain ⟨_, r3, rfl, g2, hr2⟩ := rd_cons' rfl hr1
  obtain rfl : r3 = [] := hr2
  cases g2
  have hlt : ∀ b c, fz b = some c → b < w.heap.size := fun b c hb => by
    obtain ⟨e, fr, h⟩ := hfz b c hb
    exact (Array.getElem?_eq_some_iff.1 h).1
  have fin : ∀ w', Same w w' → ∃ vs fz', (Ending.returned (.string (bs (Lib.join l s))) = .returned (resV vs)) ∧ (∀ b c, fz b = some c → fz' b = some c) ∧ FzOK fz' w' ∧ (∀ b c, fz' b = some c → fz b = some c ∨ w.heap.size ≤ b) ∧ RdAll fz' joinS.rs (joinS.g (l, s, ())) vs ∧ Same w w' := fun w' hs =>
    ⟨[.string (bs (Lib.join l s))], fz, rfl, fun _ _ h => h, hfz.keep fun b c hb => hs.2.2.2 b (hlt b c hb), fun _ _ h => .inl h, ⟨_, _, rfl, .inr ⟨rfl, rfl⟩, rfl⟩, hs⟩
  obtain ⟨sv, hsv, hcase⟩ := g1
  cases hsv
  rcases hcase with ⟨⟨q, c, rfl⟩, hl⟩ | ⟨b, o, c, arr, rfl, hb, hsz, hc, hx⟩
  · have hl : l = [] := hl
    subst hl
    have ha : args = #[.slice q 0 c, .string (bs s)] := Array.toList_inj.1 e1
    subst ha
    refine (Tryz.strings_Join_none q c (bs s) w).mono ?_
    rintro e w' ⟨rfl, rfl⟩
    exact fin w' ⟨Nat.le_refl _, rfl, rfl, fun _ _ => rfl⟩
  · have ha : args = #[.slice (some ⟨b, o, none⟩) l.length c, .string (bs s)] := Array.toList_inj.1 e1
    subst ha
    obtain ⟨te, fr, hh⟩ := hfz b arr hb
    have hmap : (l.map bs).map (·.data.toList) = l := by
      rw [List.map_map]
      have : ((fun x : ByteArray => x.data.toList) ∘ bs) = id := by funext y; exact bs_data y
      rw [this, List.map_id]
    have := Tryz.strings_Join b o c (l.map bs) (bs s) w (fun j x hj => by
      rw [List.getElem?_map] at hj
      obtain ⟨y, hy, rfl⟩ := Option.map_eq_some_iff.1 hj
      have h1 := hx j y hy
      have h1 : ((arr.toList.drop (o + j * 1)).take 1) = [.string (bs y)] := h1
      rw [Nat.mul_one] at h1
      have h2 : arr.toList[o + j]? = some (.string (bs y)) := by
        have := congrArg (fun z => z[0]?) h1
        simpa [List.getElem?_take, List.getElem?_drop] using this
      show World.cell? w ⟨b, o + j, none⟩ = _
      simp only [World.cell?, hh]
      simpa using h2) (hlt b arr hb) (by rw [List.length_map]; exact hp.1) (by rw [List.length_map]; exact hc) (by rw [hmap, bs_data]; exact hp.2)
    rw [List.length_map, hmap, bs_data] at this
    refine this.mono ?_
    rintro e w' ⟨rfl, hbl⟩
    exact fin w' (same_of hbl)
end Go.Proofs.YtpdbgpkedehpgaaGreatDoor
