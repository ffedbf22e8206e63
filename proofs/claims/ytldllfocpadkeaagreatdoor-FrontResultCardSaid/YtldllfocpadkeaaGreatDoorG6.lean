/-
  Part of the proof: ShelfW Idx ItoaW ShelfV. No condition.
-/
import Derived.Shelf.Strings.Search2
import Derived.Test.YtldllfocpadkeaaGreatDoorProg
import Derived.Test.YtldllfocpadkeaaGreatDoorEnv
import Derived.Test.YtldllfocpadkeaaGreatDoorSym
import Derived.Test.YtldllfocpadkeaaGreatDoorG1
import Derived.Test.YtldllfocpadkeaaGreatDoorG3
import Derived.Test.YtldllfocpadkeaaGreatDoorG5
import Derived.Test.YtldllfocpadkeaaGreatDoorG4
import Derived.Shelf.Strings.OnBuilder
import Derived.Shelf.Strings.Trim
import Derived.Shelf.Strings.Builder2
namespace Go.Proofs
open Go.Shelf
def Tryz.lays219_ren:Go.Shelf.Ren:=⟨fun|219=>262|217=>309|225=>310|224=>311|267=>312|266=>337|314=>338|n=>n,fun|9=>9|3=>3|4=>4|5=>5|46=>262|146=>371|51=>259|n=>n,fun|1=>1|n=>n⟩
theorem Tryz.lays219:Go.Proofs.Lays.n219 Tryz.prog Tryz.lays219_ren:={
 mixed:=by kernel_rfl
 f217:=Tryz.func309.trans (congrArg some (by kernel_rfl))
 f219:=Tryz.func262.trans (congrArg some (by kernel_rfl))
 f224:=Tryz.func311.trans (congrArg some (by kernel_rfl))
 f225:=Tryz.func310.trans (congrArg some (by kernel_rfl))
 f266:=Tryz.func337.trans (congrArg some (by kernel_rfl))
 f267:=Tryz.func312.trans (congrArg some (by kernel_rfl))
 f314:=Tryz.func338.trans (congrArg some (by kernel_rfl))
 t3:=Tryz.underlying3
 a3:=Tryz.isAgg3
 z3:=Tryz.sizeOf3
 v3:=Tryz.zeroValue3
 t4:=Tryz.underlying4
 a4:=Tryz.isAgg4
 z4:=Tryz.sizeOf4
 v4:=Tryz.zeroValue4
 t5:=Tryz.underlying5
 a5:=Tryz.isAgg5
 z5:=Tryz.sizeOf5
 v5:=Tryz.zeroValue5
 t9:=Tryz.underlying9
 a9:=Tryz.isAgg9
 z9:=Tryz.sizeOf9
 v9:=Tryz.zeroValue9
 t46:=Tryz.underlying262
 a46:=Tryz.isAgg262
 z46:=Tryz.sizeOf262
 v46:=Tryz.zeroValue262
 t51:=Tryz.underlying259
 a51:=Tryz.isAgg259
 z51:=Tryz.sizeOf259
 v51:=Tryz.zeroValue259
 t146:=Tryz.underlying371
 a146:=Tryz.isAgg371
 z146:=Tryz.sizeOf371
 v146:=Tryz.zeroValue371
 g1:=by kernel_rfl}
open Go.RowKit Go.Lib in
theorem Tryz.stringslite_Index (s sub:ByteArray) (m:Int) (w:World) (hs:s.size<4294967281) (hm:w.cell? ⟨1,0,none⟩=some (.int .i64 m)):
 Calls Tryz.prog 262 #[.string s,.string sub] w fun e w'=>e=.returned (.int .i64 (Lib.index s.data.toList sub.data.toList))∧w'=w:=Any.stringslite_Index Tryz.lays219 s sub m w hs hm
end Go.Proofs
namespace Go.Proofs.YtldllfocpadkeaaGreatDoor
open Go Go.Eng
noncomputable def sumI (sum:FuncId→List Value→Option Value) (f:FuncId) (a:List Value):Option Value:=
 bif Nat.beq f 262 then match a with
  |[.string s,.string t]=>bif Nat.blt s.size 60 then some (.int .i64 (Lib.index s.data.toList t.data.toList)) else none
  |_=>none
 else sum f a
theorem env_idx {sum:FuncId→List Value→Option Value} {spec:FuncId→Option PSpec} (h:(envC sum spec).OK Tryz.prog):(envC (sumI sum) spec).OK Tryz.prog:=
 env_ok (fun f a v hs=>by
  unfold sumI at hs;cases hb:Nat.beq f 262
  ·rw[hb,cond_false] at hs;exact h.sum f a v hs
  ·rw[hb,cond_true] at hs;rw[beq_eq hb]
   split at hs
   ·rename_i s t;cases hl:Nat.blt s.size 60
    ·rw[hl] at hs;cases hs
    ·rw[hl,cond_true] at hs;cases hs;have hl:s.size<60:=by simpa using hl
     refine⟨rfl,rfl,fun w hw=> ?_⟩;obtain⟨u,hu,hr⟩:=hw.1 (1,[ai .i64]) (by simp[glC]) 0 (ai .i64) rfl;rcases hr with⟨hp,_⟩|⟨b,he,_⟩|⟨k,m,he,rfl⟩
     ·cases hp
     ·cases he
     ·cases he;refine(Tryz.stringslite_Index s t m w (by omega) hu).mono ?_;rintro e w' ⟨rfl,rfl⟩;exact⟨rfl,Nat.le_refl _,rfl,rfl,fun _ _=>rfl⟩
   ·cases hs) h.spec
end Go.Proofs.YtldllfocpadkeaaGreatDoor
namespace Go.Proofs
open Go.Shelf
def Tryz.lays159_ren:Go.Shelf.Ren:=⟨fun|159=>152|165=>171|166=>172|167=>208|169=>173|230=>209|204=>210|240=>222|241=>223|197=>212|118=>273|168=>274|270=>275|262=>276|276=>282|277=>283|260=>277|242=>320|313=>321|278=>346|274=>347|275=>348|n=>n,fun|9=>9|4=>4|3=>3|5=>5|72=>206|0=>0|76=>210|75=>209|107=>252|70=>204|20=>20|37=>78|127=>264|21=>21|105=>253|164=>318|162=>351|203=>349|119=>352|46=>262|139=>355|138=>354|51=>259|160=>374|208=>391|206=>389|80=>75|n=>n,fun|13=>2|3=>3|4=>4|n=>n⟩
theorem Tryz.lays159:Go.Proofs.Lays.n159 Tryz.prog Tryz.lays159_ren:={
 mixed:=by kernel_rfl
 f118:=Tryz.func273.trans (congrArg some (by kernel_rfl))
 f159:=Tryz.func152.trans (congrArg some (by kernel_rfl))
 f165:=Tryz.func171.trans (congrArg some (by kernel_rfl))
 f166:=Tryz.func172.trans (congrArg some (by kernel_rfl))
 f167:=Tryz.func208.trans (congrArg some (by kernel_rfl))
 f168:=Tryz.func274.trans (congrArg some (by kernel_rfl))
 f169:=Tryz.func173.trans (congrArg some (by kernel_rfl))
 f197:=Tryz.func212.trans (congrArg some (by kernel_rfl))
 f204:=Tryz.func210.trans (congrArg some (by kernel_rfl))
 f230:=Tryz.func209.trans (congrArg some (by kernel_rfl))
 f240:=Tryz.func222.trans (congrArg some (by kernel_rfl))
 f241:=Tryz.func223.trans (congrArg some (by kernel_rfl))
 f242:=Tryz.func320.trans (congrArg some (by kernel_rfl))
 f260:=Tryz.func277.trans (congrArg some (by kernel_rfl))
 f262:=Tryz.func276.trans (congrArg some (by kernel_rfl))
 f270:=Tryz.func275.trans (congrArg some (by kernel_rfl))
 f274:=Tryz.func347.trans (congrArg some (by kernel_rfl))
 f275:=Tryz.func348.trans (congrArg some (by kernel_rfl))
 f276:=Tryz.func282.trans (congrArg some (by kernel_rfl))
 f277:=Tryz.func283.trans (congrArg some (by kernel_rfl))
 f278:=Tryz.func346.trans (congrArg some (by kernel_rfl))
 f313:=Tryz.func321.trans (congrArg some (by kernel_rfl))
 t0:=Tryz.underlying0
 a0:=Tryz.isAgg0
 z0:=Tryz.sizeOf0
 v0:=Tryz.zeroValue0
 t3:=Tryz.underlying3
 a3:=Tryz.isAgg3
 z3:=Tryz.sizeOf3
 v3:=Tryz.zeroValue3
 t4:=Tryz.underlying4
 a4:=Tryz.isAgg4
 z4:=Tryz.sizeOf4
 v4:=Tryz.zeroValue4
 t5:=Tryz.underlying5
 a5:=Tryz.isAgg5
 z5:=Tryz.sizeOf5
 v5:=Tryz.zeroValue5
 t9:=Tryz.underlying9
 a9:=Tryz.isAgg9
 z9:=Tryz.sizeOf9
 v9:=Tryz.zeroValue9
 t20:=Tryz.underlying20
 a20:=Tryz.isAgg20
 z20:=Tryz.sizeOf20
 v20:=Tryz.zeroValue20
 t21:=Tryz.underlying21
 a21:=Tryz.isAgg21
 z21:=Tryz.sizeOf21
 v21:=Tryz.zeroValue21
 t37:=Tryz.underlying78
 a37:=Tryz.isAgg78
 z37:=Tryz.sizeOf78
 v37:=Tryz.zeroValue78
 t46:=Tryz.underlying262
 a46:=Tryz.isAgg262
 z46:=Tryz.sizeOf262
 v46:=Tryz.zeroValue262
 t51:=Tryz.underlying259
 a51:=Tryz.isAgg259
 z51:=Tryz.sizeOf259
 v51:=Tryz.zeroValue259
 t70:=Tryz.underlying204
 a70:=Tryz.isAgg204
 z70:=Tryz.sizeOf204
 v70:=Tryz.zeroValue204
 t72:=Tryz.underlying206
 a72:=Tryz.isAgg206
 z72:=Tryz.sizeOf206
 v72:=Tryz.zeroValue206
 t75:=Tryz.underlying209
 a75:=Tryz.isAgg209
 z75:=Tryz.sizeOf209
 v75:=Tryz.zeroValue209
 t76:=Tryz.underlying210
 a76:=Tryz.isAgg210
 z76:=Tryz.sizeOf210
 v76:=Tryz.zeroValue210
 t105:=Tryz.underlying253
 a105:=Tryz.isAgg253
 z105:=Tryz.sizeOf253
 v105:=Tryz.zeroValue253
 t107:=Tryz.underlying252
 a107:=Tryz.isAgg252
 z107:=Tryz.sizeOf252
 v107:=Tryz.zeroValue252
 t119:=Tryz.underlying352
 a119:=Tryz.isAgg352
 z119:=Tryz.sizeOf352
 t127:=Tryz.underlying264
 a127:=Tryz.isAgg264
 z127:=Tryz.sizeOf264
 v127:=Tryz.zeroValue264
 t138:=Tryz.underlying354
 a138:=Tryz.isAgg354
 z138:=Tryz.sizeOf354
 v138:=Tryz.zeroValue354
 t139:=Tryz.underlying355
 a139:=Tryz.isAgg355
 z139:=Tryz.sizeOf355
 v139:=Tryz.zeroValue355
 t160:=Tryz.underlying374
 a160:=Tryz.isAgg374
 z160:=Tryz.sizeOf374
 v160:=Tryz.zeroValue374
 t162:=Tryz.underlying351
 a162:=Tryz.isAgg351
 z162:=Tryz.sizeOf351
 v162:=Tryz.zeroValue351
 t164:=Tryz.underlying318
 a164:=Tryz.isAgg318
 z164:=Tryz.sizeOf318
 v164:=Tryz.zeroValue318
 t203:=Tryz.underlying349
 a203:=Tryz.isAgg349
 z203:=Tryz.sizeOf349
 v203:=Tryz.zeroValue349
 t206:=Tryz.underlying389
 a206:=Tryz.isAgg389
 z206:=Tryz.sizeOf389
 v206:=Tryz.zeroValue389
 t208:=Tryz.underlying391
 a208:=Tryz.isAgg391
 z208:=Tryz.sizeOf391
 v208:=Tryz.zeroValue391
 g3:=by kernel_rfl
 g4:=by kernel_rfl
 g13:=by kernel_rfl}
theorem Tryz.Builder_Extra_159:Builder.Extra Tryz.prog Tryz.lays159_ren:={
 sizeBuilder:=by kernel_rfl
 liesBuilder:=by kernel_rfl
 t5:=Tryz.underlying5
 a5:=Tryz.isAgg5
 z5:=Tryz.sizeOf5
 v5:=Tryz.zeroValue5
 infoByte:=by kernel_rfl
 cellsByte:=by kernel_rfl
 sizeByte:=by kernel_rfl
 neB5:=by decide}
open Go.RowKit in
theorem Tryz.strings_ToLower_ascii (s:ByteArray) (w:World) (hs:s.size≤140737488355328) (hascii:∀(j:Nat) (b:UInt8),s.data.toList[j]?=some b→b.toNat<128):
 Calls Tryz.prog 152 #[.string s] w fun e w'=>e=.returned (.string ⟨(Lib.toLowerA s.data.toList).toArray⟩)∧Below w.heap.size w w':=Any.strings_ToLower_ascii Tryz.lays159 Tryz.Builder_Extra_159 s w hs hascii
def Tryz.lays160_ren:Go.Shelf.Ren:=⟨fun|160=>116|232=>154|231=>153|227=>155|234=>157|233=>156|236=>159|235=>158|228=>211|271=>214|151=>213|197=>212|120=>279|152=>278|260=>277|137=>286|119=>322|224=>311|225=>310|217=>309|266=>337|n=>n,fun|9=>9|4=>4|3=>3|5=>5|117=>195|116=>194|0=>0|124=>198|21=>21|105=>253|46=>262|119=>352|139=>355|138=>354|n=>n,fun|3=>3|4=>4|n=>n⟩
theorem Tryz.lays160:Go.Proofs.Lays.n160 Tryz.prog Tryz.lays160_ren:={
 mixed:=by kernel_rfl
 f119:=Tryz.func322.trans (congrArg some (by kernel_rfl))
 f120:=Tryz.func279.trans (congrArg some (by kernel_rfl))
 f137:=Tryz.func286.trans (congrArg some (by kernel_rfl))
 f151:=Tryz.func213.trans (congrArg some (by kernel_rfl))
 f152:=Tryz.func278.trans (congrArg some (by kernel_rfl))
 f160:=Tryz.func116.trans (congrArg some (by kernel_rfl))
 f197:=Tryz.func212.trans (congrArg some (by kernel_rfl))
 f217:=Tryz.func309.trans (congrArg some (by kernel_rfl))
 f224:=Tryz.func311.trans (congrArg some (by kernel_rfl))
 f225:=Tryz.func310.trans (congrArg some (by kernel_rfl))
 f227:=Tryz.func155.trans (congrArg some (by kernel_rfl))
 f228:=Tryz.func211.trans (congrArg some (by kernel_rfl))
 f231:=Tryz.func153.trans (congrArg some (by kernel_rfl))
 f232:=Tryz.func154.trans (congrArg some (by kernel_rfl))
 f233:=Tryz.func156.trans (congrArg some (by kernel_rfl))
 f234:=Tryz.func157.trans (congrArg some (by kernel_rfl))
 f235:=Tryz.func158.trans (congrArg some (by kernel_rfl))
 f236:=Tryz.func159.trans (congrArg some (by kernel_rfl))
 f260:=Tryz.func277.trans (congrArg some (by kernel_rfl))
 f266:=Tryz.func337.trans (congrArg some (by kernel_rfl))
 f271:=Tryz.func214.trans (congrArg some (by kernel_rfl))
 t0:=Tryz.underlying0
 a0:=Tryz.isAgg0
 z0:=Tryz.sizeOf0
 v0:=Tryz.zeroValue0
 t3:=Tryz.underlying3
 a3:=Tryz.isAgg3
 z3:=Tryz.sizeOf3
 v3:=Tryz.zeroValue3
 t4:=Tryz.underlying4
 a4:=Tryz.isAgg4
 z4:=Tryz.sizeOf4
 v4:=Tryz.zeroValue4
 t5:=Tryz.underlying5
 a5:=Tryz.isAgg5
 z5:=Tryz.sizeOf5
 v5:=Tryz.zeroValue5
 t9:=Tryz.underlying9
 a9:=Tryz.isAgg9
 z9:=Tryz.sizeOf9
 v9:=Tryz.zeroValue9
 t21:=Tryz.underlying21
 a21:=Tryz.isAgg21
 z21:=Tryz.sizeOf21
 v21:=Tryz.zeroValue21
 t46:=Tryz.underlying262
 a46:=Tryz.isAgg262
 z46:=Tryz.sizeOf262
 v46:=Tryz.zeroValue262
 t105:=Tryz.underlying253
 a105:=Tryz.isAgg253
 z105:=Tryz.sizeOf253
 v105:=Tryz.zeroValue253
 t116:=Tryz.underlying194
 a116:=Tryz.isAgg194
 z116:=Tryz.sizeOf194
 t117:=Tryz.underlying195
 a117:=Tryz.isAgg195
 z117:=Tryz.sizeOf195
 v117:=Tryz.zeroValue195
 t119:=Tryz.underlying352
 a119:=Tryz.isAgg352
 z119:=Tryz.sizeOf352
 t124:=Tryz.underlying198
 a124:=Tryz.isAgg198
 z124:=Tryz.sizeOf198
 v124:=Tryz.zeroValue198
 t138:=Tryz.underlying354
 a138:=Tryz.isAgg354
 z138:=Tryz.sizeOf354
 v138:=Tryz.zeroValue354
 t139:=Tryz.underlying355
 a139:=Tryz.isAgg355
 z139:=Tryz.sizeOf355
 v139:=Tryz.zeroValue355
 g3:=by kernel_rfl
 g4:=by kernel_rfl}
open Go.RowKit in
theorem Tryz.strings_Trim_one (s:ByteArray) (c:UInt8) (hc:c.toNat<128) (w:World) (hs:s.size≤9223372036854775807):
 Calls Tryz.prog 116 #[.string s,.string ⟨#[c]⟩] w fun e w'=>e=.returned (.string ⟨(Lib.trimB s.data.toList c).toArray⟩)∧(w'=w∨w'=w.drew):=Any.strings_Trim_one Tryz.lays160 s c hc w hs
end Go.Proofs
