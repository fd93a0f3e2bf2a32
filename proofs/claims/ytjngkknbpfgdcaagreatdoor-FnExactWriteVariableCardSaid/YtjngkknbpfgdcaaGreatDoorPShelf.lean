import Derived.Test.YtjngkknbpfgdcaaGreatDoorPB
import Derived.Lib.LaidTab
import Derived.Lib.SmallJoins
import Derived.Stop.LaidErr
import Derived.Test.YtjngkknbpfgdcaaGreatDoorPTV
import Derived.Test.YtjngkknbpfgdcaaGreatDoorPA7
import Derived.Test.YtjngkknbpfgdcaaGreatDoorRows
import Derived.Shelf.Strconv.Itoa0
import Derived.Shelf.Strconv.Itoa1
import Derived.Shelf.LaysM
import Derived.Shelf.Strconv.Itoa2
import Derived.Shelf.Strconv.Itoa3
import Derived.Shelf.Strings.Fields
import Derived.Shelf.Strings.SplitShaped
import Derived.Shelf.Unicode.Latin
import Derived.Shelf.Unicode.Is16White
import Derived.Shelf.Unicode.IsSpaceAny
import Derived.Shelf.Unicode.Is16WhiteD
import Derived.Shelf.Unicode.IsSpaceAnyD
import Derived.Shelf.Strings.FieldsAny
import Derived.Shelf.Strings.FieldsFuncAny
import Derived.Shelf.Strings.FieldsFuncGrows
import Derived.Shelf.Slices.Turned
import Derived.Test.YtjngkknbpfgdcaaGreatDoorProg
set_option linter.unusedVariables false
set_option linter.unusedSimpArgs false
set_option maxRecDepth 100000
set_option maxHeartbeats 8000000
namespace Go.Proofs
open Go.Shelf
def Tryz.laysM171_ren : Go.Shelf.Ren := ⟨fun | 171 => 145 | 243 => 151 | 246 => 153 | 283 => 156 | 284 => 157 | 285 => 158 | 286 => 159 | 129 => 162 | 317 => 161 | 318 => 163 | 319 => 164 | 320 => 165 | 337 => 168 | 338 => 169 | n => n, fun | 3 => 3 | 9 => 9 | 2 => 2 | 4 => 4 | 171 => 178 | 0 => 0 | 53 => 172 | 37 => 22 | 5 => 5 | 173 => 181 | 212 => 190 | 51 => 186 | 20 => 20 | 213 => 191 | 46 => 168 | 232 => 208 | 233 => 209 | n => n, fun | 17 => 2 | 18 => 3 | 19 => 4 | n => n⟩
theorem Tryz.laysM171 : Go.Proofs.LaysM.n171 Tryz.prog Tryz.laysM171_ren := {
 mixed := by kernel_rfl
 f129 := Tryz.func162.trans (congrArg some (by kernel_rfl))
 f171 := Tryz.func145.trans (congrArg some (by kernel_rfl))
 f243 := Tryz.func151.trans (congrArg some (by kernel_rfl))
 f246 := Tryz.func153.trans (congrArg some (by kernel_rfl))
 f283 := Tryz.func156.trans (congrArg some (by kernel_rfl))
 f284 := Tryz.func157.trans (congrArg some (by kernel_rfl))
 f285 := Tryz.func158.trans (congrArg some (by kernel_rfl))
 f286 := Tryz.func159.trans (congrArg some (by kernel_rfl))
 f317 := Tryz.func161.trans (congrArg some (by kernel_rfl))
 f318 := Tryz.func163.trans (congrArg some (by kernel_rfl))
 f319 := Tryz.func164.trans (congrArg some (by kernel_rfl))
 f320 := Tryz.func165.trans (congrArg some (by kernel_rfl))
 f337 := Tryz.func168.trans (congrArg some (by kernel_rfl))
 f338 := Tryz.func169.trans (congrArg some (by kernel_rfl))
 t0 := Tryz.underlying0
 a0 := Tryz.isAgg0
 z0 := Tryz.sizeOf0
 v0 := Tryz.zeroValue0
 t2 := Tryz.underlying2
 a2 := Tryz.isAgg2
 z2 := Tryz.sizeOf2
 v2 := Tryz.zeroValue2
 t3 := Tryz.underlying3
 a3 := Tryz.isAgg3
 z3 := Tryz.sizeOf3
 v3 := Tryz.zeroValue3
 t4 := Tryz.underlying4
 a4 := Tryz.isAgg4
 z4 := Tryz.sizeOf4
 v4 := Tryz.zeroValue4
 t5 := Tryz.underlying5
 a5 := Tryz.isAgg5
 z5 := Tryz.sizeOf5
 v5 := Tryz.zeroValue5
 t9 := Tryz.underlying9
 a9 := Tryz.isAgg9
 z9 := Tryz.sizeOf9
 v9 := Tryz.zeroValue9
 t20 := Tryz.underlying20
 a20 := Tryz.isAgg20
 z20 := Tryz.sizeOf20
 v20 := Tryz.zeroValue20
 t37 := Tryz.underlying22
 a37 := Tryz.isAgg22
 z37 := Tryz.sizeOf22
 v37 := Tryz.zeroValue22
 t46 := Tryz.underlying168
 a46 := Tryz.isAgg168
 z46 := Tryz.sizeOf168
 v46 := Tryz.zeroValue168
 t51 := Tryz.underlying186
 a51 := Tryz.isAgg186
 z51 := Tryz.sizeOf186
 v51 := Tryz.zeroValue186
 t53 := Tryz.underlying172
 a53 := Tryz.isAgg172
 z53 := Tryz.sizeOf172
 v53 := Tryz.zeroValue172
 t171 := Tryz.underlying178
 a171 := Tryz.isAgg178
 z171 := Tryz.sizeOf178
 v171 := Tryz.zeroValue178
 t173 := Tryz.underlying181
 a173 := Tryz.isAgg181
 z173 := Tryz.sizeOf181
 v173 := Tryz.zeroValue181
 t212 := Tryz.underlying190
 a212 := Tryz.isAgg190
 z212 := Tryz.sizeOf190
 v212 := Tryz.zeroValue190
 t213 := Tryz.underlying191
 a213 := Tryz.isAgg191
 z213 := Tryz.sizeOf191
 t232 := Tryz.underlying208
 a232 := Tryz.isAgg208
 z232 := Tryz.sizeOf208
 v232 := Tryz.zeroValue208
 t233 := Tryz.underlying209
 a233 := Tryz.isAgg209
 z233 := Tryz.sizeOf209
 v233 := Tryz.zeroValue209
 g17 := by kernel_rfl
 g18 := by kernel_rfl
 g19 := by kernel_rfl
 i0 := by kernel_rfl
 i2 := by kernel_rfl
 i3 := by kernel_rfl
 i4 := by kernel_rfl
 i5 := by kernel_rfl
 i9 := by kernel_rfl
 i20 := by kernel_rfl
 i37 := by kernel_rfl
 i46 := by kernel_rfl
 i51 := by kernel_rfl
 i53 := by kernel_rfl
 i171 := by kernel_rfl
 i173 := by kernel_rfl
 i212 := by kernel_rfl
 i232 := by kernel_rfl
 i233 := by kernel_rfl
 m17 := by kernel_rfl
 m18 := by kernel_rfl
 m19 := by kernel_rfl }
open Go.RowKit Go.Sort Go.Lib in
/-- strconv.Itoa: "Itoa is equivalent to FormatInt(int64(i), 10).": i's DECIMAL NUMERAL ('Lib.itoa': a '-' where i is negative, then the digits), FOR EVERY int. The world behind the call: the world before it, new blocks behind the heap (the library's 'var a [24]byte'), draws. (LAID: no walk: one application.) -/
theorem Tryz.strconv_Itoa (n : Int) (h0 : -9223372036854775808 ≤ n) (h1 : n ≤ 9223372036854775807) (w : World) (htab : Lib.TabIs Tryz.prog w "internal/strconv.uint64pow10" .u64 Lib.pow10Tab) :
 Calls Tryz.prog 145 #[.int .i64 n] w fun e w' => e = .returned (.string ⟨(Lib.itoa n).toArray⟩) ∧ ∃ k os, w' = grow (w.drewN k) os := Any.strconv_Itoa Tryz.laysM171 n h0 h1 w htab
def Tryz.laysM157_ren : Go.Shelf.Ren := ⟨fun | 157 => 152 | 229 => 154 | 199 => 155 | 261 => 160 | 311 => 166 | 312 => 167 | n => n, fun | 9 => 9 | 31 => 24 | 3 => 3 | 5 => 5 | 4 => 4 | 119 => 175 | 0 => 0 | 40 => 177 | 152 => 183 | 21 => 21 | 154 => 185 | 51 => 186 | 141 => 188 | 196 => 197 | 193 => 194 | 198 => 200 | 49 => 198 | 194 => 195 | 201 => 203 | 226 => 206 | 46 => 168 | 227 => 207 | n => n, fun | 0 => 0 | 6 => 1 | n => n⟩
theorem Tryz.laysM157 : Go.Proofs.LaysM.n157 Tryz.prog Tryz.laysM157_ren := {
 mixed := by kernel_rfl
 f157 := Tryz.func152.trans (congrArg some (by kernel_rfl))
 f199 := Tryz.func155.trans (congrArg some (by kernel_rfl))
 f229 := Tryz.func154.trans (congrArg some (by kernel_rfl))
 f261 := Tryz.func160.trans (congrArg some (by kernel_rfl))
 f311 := Tryz.func166.trans (congrArg some (by kernel_rfl))
 f312 := Tryz.func167.trans (congrArg some (by kernel_rfl))
 t0 := Tryz.underlying0
 a0 := Tryz.isAgg0
 z0 := Tryz.sizeOf0
 v0 := Tryz.zeroValue0
 t3 := Tryz.underlying3
 a3 := Tryz.isAgg3
 z3 := Tryz.sizeOf3
 v3 := Tryz.zeroValue3
 t4 := Tryz.underlying4
 a4 := Tryz.isAgg4
 z4 := Tryz.sizeOf4
 v4 := Tryz.zeroValue4
 t5 := Tryz.underlying5
 a5 := Tryz.isAgg5
 z5 := Tryz.sizeOf5
 v5 := Tryz.zeroValue5
 t9 := Tryz.underlying9
 a9 := Tryz.isAgg9
 z9 := Tryz.sizeOf9
 v9 := Tryz.zeroValue9
 t21 := Tryz.underlying21
 a21 := Tryz.isAgg21
 z21 := Tryz.sizeOf21
 v21 := Tryz.zeroValue21
 t31 := Tryz.underlying24
 a31 := Tryz.isAgg24
 z31 := Tryz.sizeOf24
 v31 := Tryz.zeroValue24
 t40 := Tryz.underlying177
 a40 := Tryz.isAgg177
 z40 := Tryz.sizeOf177
 v40 := Tryz.zeroValue177
 t46 := Tryz.underlying168
 a46 := Tryz.isAgg168
 z46 := Tryz.sizeOf168
 v46 := Tryz.zeroValue168
 t49 := Tryz.underlying198
 a49 := Tryz.isAgg198
 z49 := Tryz.sizeOf198
 v49 := Tryz.zeroValue198
 t51 := Tryz.underlying186
 a51 := Tryz.isAgg186
 z51 := Tryz.sizeOf186
 v51 := Tryz.zeroValue186
 t119 := Tryz.underlying175
 a119 := Tryz.isAgg175
 z119 := Tryz.sizeOf175
 t141 := Tryz.underlying188
 a141 := Tryz.isAgg188
 z141 := Tryz.sizeOf188
 v141 := Tryz.zeroValue188
 t152 := Tryz.underlying183
 a152 := Tryz.isAgg183
 z152 := Tryz.sizeOf183
 v152 := Tryz.zeroValue183
 t154 := Tryz.underlying185
 a154 := Tryz.isAgg185
 z154 := Tryz.sizeOf185
 v154 := Tryz.zeroValue185
 t193 := Tryz.underlying194
 a193 := Tryz.isAgg194
 z193 := Tryz.sizeOf194
 v193 := Tryz.zeroValue194
 t194 := Tryz.underlying195
 a194 := Tryz.isAgg195
 z194 := Tryz.sizeOf195
 v194 := Tryz.zeroValue195
 t196 := Tryz.underlying197
 a196 := Tryz.isAgg197
 z196 := Tryz.sizeOf197
 v196 := Tryz.zeroValue197
 t198 := Tryz.underlying200
 a198 := Tryz.isAgg200
 z198 := Tryz.sizeOf200
 v198 := Tryz.zeroValue200
 t201 := Tryz.underlying203
 a201 := Tryz.isAgg203
 z201 := Tryz.sizeOf203
 v201 := Tryz.zeroValue203
 t226 := Tryz.underlying206
 a226 := Tryz.isAgg206
 z226 := Tryz.sizeOf206
 v226 := Tryz.zeroValue206
 t227 := Tryz.underlying207
 a227 := Tryz.isAgg207
 z227 := Tryz.sizeOf207
 v227 := Tryz.zeroValue207
 g0 := by kernel_rfl
 g6 := by kernel_rfl
 i0 := by kernel_rfl
 i3 := by kernel_rfl
 i4 := by kernel_rfl
 i5 := by kernel_rfl
 i9 := by kernel_rfl
 i21 := by kernel_rfl
 i31 := by kernel_rfl
 i40 := by kernel_rfl
 i46 := by kernel_rfl
 i49 := by kernel_rfl
 i51 := by kernel_rfl
 i141 := by kernel_rfl
 i152 := by kernel_rfl
 i154 := by kernel_rfl
 i193 := by kernel_rfl
 i194 := by kernel_rfl
 i196 := by kernel_rfl
 i198 := by kernel_rfl
 i201 := by kernel_rfl
 i226 := by kernel_rfl
 i227 := by kernel_rfl
 m0 := by kernel_rfl
 m6 := by kernel_rfl }
open Go.RowKit Go.Lib in
/-- strings.Fields on ASCII bytes. (The table: 'Lib.TabIs', as strings.TrimSpace's contract asks it.) (LAID: no walk: one application.) -/
theorem Tryz.strings_Fields_laid (s : ByteArray) (w : World) (hs : s.size < 4294967281) (hascii : ∀ (j : Nat) b, s.data.toList[j]? = some b → b.toNat < 128) (htab : Lib.TabIs Tryz.prog w "strings.asciiSpace" .u8 Lib.asciiSpaceTab) :
 Calls Tryz.prog 152 #[.string s] w fun e w' =>
 e = .returned (.slice (some ⟨w.heap.size, 0, none⟩) (Lib.fields s.data.toList).length (Lib.fields s.data.toList).length) ∧ w' = w.alloc (.cells ((Lib.fields s.data.toList).map fun l => Value.string ⟨l.toArray⟩).toArray 9) := Any.strings_Fields_laid Tryz.laysM157 s w hs hascii htab
def Tryz.lays110_ren : Go.Shelf.Ren := ⟨fun | 110 => 130 | 109 => 149 | n => n, fun | 31 => 24 | 9 => 9 | 4 => 4 | 3 => 3 | 0 => 0 | n => n, fun | n => n⟩
theorem Tryz.lays110 : Go.Proofs.Lays.n110 Tryz.prog Tryz.lays110_ren := {
 mixed := by kernel_rfl
 f109 := Tryz.func149.trans (congrArg some (by kernel_rfl))
 f110 := Tryz.func130.trans (congrArg some (by kernel_rfl))
 t0 := Tryz.underlying0
 a0 := Tryz.isAgg0
 z0 := Tryz.sizeOf0
 v0 := Tryz.zeroValue0
 t3 := Tryz.underlying3
 a3 := Tryz.isAgg3
 z3 := Tryz.sizeOf3
 v3 := Tryz.zeroValue3
 t4 := Tryz.underlying4
 a4 := Tryz.isAgg4
 z4 := Tryz.sizeOf4
 v4 := Tryz.zeroValue4
 t9 := Tryz.underlying9
 a9 := Tryz.isAgg9
 z9 := Tryz.sizeOf9
 v9 := Tryz.zeroValue9
 t31 := Tryz.underlying24
 a31 := Tryz.isAgg24
 z31 := Tryz.sizeOf24
 v31 := Tryz.zeroValue24 }
open Go.Lib in
/-- slices.Contains at []string: "Contains reports whether v is present in s.": IT RETURNS 'Lib.containsS (the elements) v', which is true just where v is among them ('Lib.containsS_iff'); the world is as it was. ITS CALLEE slices.Index IS MET BY ITS OWN CONTRACT OFF THE SHELF (lay that first): no loop is walked here. (LAID: no walk: one application.) -/
theorem Tryz.slices_Contains_string (b off n c : Nat) (zs : List ByteArray) (x : ByteArray) (w : World) (hz : n ≤ zs.length) (hbig : n ≤ 9223372036854775807) (hc : ∀ j, j < zs.length → w.cell? ⟨b, off + j, none⟩ = some (.string (zs.getD j ByteArray.empty))) :
 Calls Tryz.prog 130 #[.slice (some ⟨b, off, none⟩) n c, .string x] w fun e w' => e = .returned (.bool (Lib.containsS (zs.take n) x)) ∧ w' = w := Any.slices_Contains_string Tryz.lays110 b off n c zs x w hz hbig hc
open Go.Lib in
/-- The same at a slice of length 0, a nil one too. (LAID: no walk: one application.) -/
theorem Tryz.slices_Contains_string_empty (a : Option Addr) (c : Nat) (x : ByteArray) (w : World) :
 Calls Tryz.prog 130 #[.slice a 0 c, .string x] w fun e w' => e = .returned (.bool false) ∧ w' = w := Any.slices_Contains_string_empty Tryz.lays110 a c x w
end Go.Proofs
namespace Go.Proofs.YtjngkknbpfgdcaaGreatDoor
open Go.RowKit
def Sp (w : World) : Prop := Lib.TabIs Tryz.prog w "strings.asciiSpace" .u8 Lib.asciiSpaceTab
def Strs (l:List ByteArray) (w w':World) (e:Ending):Prop :=
 e=.returned (.slice (some ⟨w.heap.size,0,none⟩) l.length l.length)/\w'=w.alloc (.cells (l.map Value.string).toArray 9)
theorem CA (l:List ByteArray) (w:World) (i:Nat) (h:i<l.length) :
  (w.alloc (.cells (l.map Value.string).toArray 9)).cell? ⟨w.heap.size,i,none⟩=some (.string (l.getD i ByteArray.empty)):=by
 rw[World.cell?_alloc_mark]
 simp[h,List.getD]
theorem Lk (l:List ByteArray) (d:ByteArray) (w:World) (ht:Sp w) (hs:d.size<4294967281) (ha:(d.data.toList.all fun b=>decide (b.toNat<128))=true)
  (hl:Lib.fields d.data.toList=l.map fun s=>s.data.toList) :
  Calls Tryz.prog 152 #[.string d] w fun e w'=>Strs l w w' e:=by
 refine (Tryz.strings_Fields_laid d w hs (fun j b hb=>by
  have:=List.all_eq_true.1 ha b (List.mem_of_getElem? hb)
  simpa using this) ht).mono ?_
 rintro e w' ⟨rfl,rfl⟩
 have e1:((Lib.fields d.data.toList).map fun l=>Value.string ⟨l.toArray⟩)=l.map Value.string:=by
  rw[hl,List.map_map];rfl
 have e2:(Lib.fields d.data.toList).length=l.length:=by rw[hl,aj]
 rw[e1,e2]
 exact⟨rfl,rfl⟩
theorem Sp.on {w w':World} (h:Sp w) (hb:cE w w'):Sp w':=Joins.tab_stays (g:=0) aC h hb (Nat.le_refl _)
theorem Strs.bel {l:List ByteArray} {w w':World} {e:Ending} (h:Strs l w w' e):cE w w':=by
 rw[h.2];exact cE.alloc (cE.refl w) _
theorem gG {a b:Bool} (h:a=b):Ending.returned (.bool a)=.returned (.bool b):=by rw[h]
def zA:List ByteArray:=[⟨#[112,114,111,99,101,100,117,114,101]⟩,⟨#[101,110,100]⟩,⟨#[103,108,111,98,97,108]⟩,⟨#[108,111,99,97,108]⟩,⟨#[114,101,99,111,114,100]⟩,⟨#[105,102]⟩,⟨#[116,104,101,110]⟩,⟨#[101,108,115,101]⟩,⟨#[119,104,105,108,101]⟩,⟨#[117,110,116,105,108]⟩,⟨#[101,118,101,114,121]⟩,⟨#[100,111]⟩,⟨#[114,101,112,101,97,116]⟩,⟨#[99,97,115,101]⟩,⟨#[111,102]⟩,⟨#[100,101,102,97,117,108,116]⟩,⟨#[114,101,116,117,114,110]⟩,⟨#[115,117,115,112,101,110,100]⟩,⟨#[102,97,105,108]⟩,⟨#[98,114,101,97,107]⟩,⟨#[110,101,120,116]⟩,⟨#[99,114,101,97,116,101]⟩,⟨#[116,111]⟩,⟨#[98,121]⟩,⟨#[110,111,116]⟩,⟨#[100,101,102,101,114]⟩]
theorem A5:zA.length=26:=by decide +kernel
def Ht (s:ByteArray):Bool:=Lib.containsS zA s
def xC (b:Int):Bool:=decide (97<=b/\b<=122)||decide (65<=b/\b<=90)||decide (b=95)
def sN (b:Int):Bool:=decide (48<=b/\b<=57)
theorem FN {b:Int} (h:xC b=true):sN b=false:=by
 unfold xC at h
 unfold sN
 simp only[Bool.or_eq_true,decide_eq_true_eq]at h
 exact aq aB
def Tr (s:ByteArray):Bool:=s.data.toList.all fun c=>xC c.toNat||sN c.toNat
def nameB (s:ByteArray):Bool:=decide (1<=s.size)&&decide (s.size<=12) && !sN (s.data.toList.getD 0 0).toNat && !Ht s&&Tr s
theorem Ll (l:List ByteArray) (b c:Nat) (x:ByteArray) (w:World) (hl:l.length<1000000) (hc:∀j,j<l.length->w.cell? ⟨b,j,none⟩=some (.string (l.getD j ByteArray.empty))) :
  Calls Tryz.prog 150 #[.slice (some ⟨b,0,none⟩) l.length c,.string x] w fun e w'=>e=.returned (.bool (Lib.containsS l x))/\w'=w:=by
 go_enter Tryz.func150,Tryz.ntmps150
 go_wp2_with (fail)
 go_loopw [5] (fun v wr=>∃m:Nat,v=.int .i64 m/\m<=l.length/\Hid (∀j,j<m->l.getD j ByteArray.empty≠x)/\wr=w) (fun v _=>l.length - (intOf v).toNat)
 case atStart=>exact⟨0,rfl,by omega,fun j hj=>by omega,rfl⟩
 case round =>
  obtain⟨m,rfl,m1,hm,rfl⟩:=hrel
  by_cases h1:m<l.length
  ·
   have hd:decide ((m:Int)<(l.length:Int))=true:=aX
   have hcm:=hc m h1
   rw[show l.getD m ByteArray.empty=l[m] by simp[List.getD,h1]]at hcm
   have hw:IntKind.i64.wrap ((m:Int)+1)=(m:Int)+1:=bf
   by_cases hx:l[m]=x
   ·
    have hR:Lib.containsS l x=true:=by
     rw[Lib.containsS_iff,<-hx];exact List.getElem_mem h1
    go_wp2_with (fail)
    all_goals
     go_returns
     exact⟨by rw[hR];first | done | rfl,rfl⟩
   ·
    have hd2:(l[m].toList==x.toList)=false:=by rw[aw];exact fun h=>hx ((ba_eq _ _).1 h)
    go_wp2_with (fail)
    exact⟨⟨m+1,rfl,h1,fun j hj=>by
     by_cases e:j=m
     ·
      subst e;simpa[List.getD,h1]using hx
     ·
      exact hm.out j aB,trivial⟩,by simp only[intOf];omega⟩
  ·
   have hd:decide ((m:Int)<(l.length:Int))=false:=aX
   have hR:Lib.containsS l x=false:=by
    have:Lib.idxOfS l x = -1:=Lib.idxFromS_miss x l 0 fun j hj=>hm.out j aB
    rw[Lib.containsS,this];rfl
   go_wp2_with (fail)
   all_goals
    go_returns
    exact⟨by rw[hR];first | done | rfl,rfl⟩
theorem jA (x:ByteArray) (w:World) :
  Calls Tryz.prog 138 #[.string x] w fun e w'=>e=.returned (.bool (Ht x))/\cE w w':=by
 have hF:=Ll zA w.heap.size 26 x (w.alloc (.cells (zA.map Value.string).toArray 9)) (by rw[A5];omega) (fun j hj=>CA zA w j hj)
 rw[A5]at hF
 go_enter Tryz.func138,Tryz.ntmps138
 go_wp2_with (go_at_call 150;refine hF.mono ?_;rintro e w1 ⟨rfl,rfl⟩)
 all_goals
  go_returns
  exact⟨rfl,bl⟩
theorem xD (w:World) (ht:Sp w):Calls Tryz.prog 148 #[] w fun e w'=>Strs zA w w' e:=by
 go_enter Tryz.func148,Tryz.ntmps148
 go_wp2_with (go_at_call 152;refine (Lk zA _ _ ht (by decide +kernel) (by decide +kernel) (by decide +kernel)).mono ?_;rintro e w1 ⟨rfl,rfl⟩)
 all_goals
  go_returns
  exact⟨rfl,rfl⟩
theorem jC (x:ByteArray) (w:World) (ht:Sp w) :
  Calls Tryz.prog 128 #[.string x] w fun e w'=>e=.returned (.bool (Ht x))/\cE w w':=by
 have hL:=A5
 have hF:=Tryz.slices_Contains_string w.heap.size 0 26 26 zA x (w.alloc (.cells (zA.map Value.string).toArray 9)) aB aB (fun j hj=>by simpa using CA zA w j hj)
 rw[show zA.take 26=zA by rw[<-hL];exact List.take_length]at hF
 go_enter Tryz.func128,Tryz.ntmps128
 go_wp2_with (first
  | (go_at_call 148;refine (xD _ ht).mono ?_;rintro e w1 ⟨rfl,rfl⟩;rw[hL])
  | (go_at_call 130;refine hF.mono ?_;rintro e w1 ⟨rfl,rfl⟩))
 all_goals
  go_returns
  exact⟨rfl,bl⟩
theorem Jz {s:ByteArray} (h:∀k (hk:k<s.size),xC (s[k].toNat)=true\/sN (s[k].toNat)=true):Tr s=true:=by
 unfold Tr
 rw[List.all_eq_true]
 intro x hx
 obtain⟨k,hk,rfl⟩:=List.mem_iff_getElem.1 hx
 have:=h k (by simpa using hk)
 simpa[ByteArray.getElem_eq_getElem_data]using this
theorem Hu {s:ByteArray} (k:Nat) (hk:k<s.size) (h1:xC (s[k].toNat)=false) (h2:sN (s[k].toNat)=false):Tr s=false:=by
 unfold Tr
 rw[List.all_eq_false]
 exact⟨s[k],by
  rw[ByteArray.getElem_eq_getElem_data]
  exact List.mem_iff_getElem.2 ⟨k,by simpa using hk,by simp⟩,by simp[h1,h2]⟩
theorem FO {s:ByteArray} (h:0<s.size):(s.data.toList.getD 0 0)=s[0]:=by
 rw[ByteArray.getElem_eq_getElem_data]
 simp[List.getD]
 rw[Array.getElem?_eq_getElem (show 0<s.data.size by simpa using h)]
 rfl
theorem lC (b:Int) (w:World) (h0:0<=b) (h1:b<256):Calls Tryz.prog 137 #[.int .u8 b] w fun e w'=>e=.returned (.bool (xC b))/\w=w':=by
 unfold xC
 go_enter Tryz.func137,Tryz.ntmps137
 go_wp2
 all_goals
  go_returns
  go_light
  refine⟨?_,rfl⟩
  simp only[Array.getD_eq_getD_getElem?,List.getElem?_toArray,List.getElem?_cons_succ,List.getElem?_cons_zero,Option.getD_some]
  first | done | (simp_all;done) | (simp_all;omega) | (rw[Ending.returned.injEq,Value.bool.injEq,Bool.eq_iff_iff];simp;omega) | (simp only[Ending.returned.injEq,Value.bool.injEq];rw[Bool.eq_iff_iff];simp;omega)
theorem nz (b:Int) (w:World) (h0:0<=b) (h1:b<256):Calls Tryz.prog 139 #[.int .u8 b] w fun e w'=>e=.returned (.bool (sN b))/\w=w':=by
 unfold sN
 go_enter Tryz.func139,Tryz.ntmps139
 go_wp2
 all_goals
  go_returns
  go_light
  refine⟨?_,rfl⟩
  simp only[Array.getD_eq_getD_getElem?,List.getElem?_toArray,List.getElem?_cons_succ,List.getElem?_cons_zero,Option.getD_some]
  first | done | (simp_all;done) | (simp_all;omega) | (rw[Ending.returned.injEq,Value.bool.injEq,Bool.eq_iff_iff];simp;omega) | (simp only[Ending.returned.injEq,Value.bool.injEq];rw[Bool.eq_iff_iff];simp;omega)
theorem mQ (s:ByteArray) (w:World) :
  Calls Tryz.prog 103 #[.string s] w fun e w'=>e=.returned (.bool (nameB s))/\cE w w':=by
 rcases Nat.lt_or_ge s.size 1 with h1 | h1
 ·
  have hR:nameB s=false:=by unfold nameB;rw[aq aB];rfl
  have hd:decide ((s.size:Int)<1)=true:=ar aB
  have hd':decide (s.size<1)=true:=ar aB
  rw[hR]
  go_enter Tryz.func103,Tryz.ntmps103
  go_wp2_with (fail)
  all_goals
   go_returns
   exact⟨rfl,bl⟩
 rcases Nat.lt_or_ge 12 s.size with h2 | h2
 ·
  have hR:nameB s=false:=by unfold nameB;rw[aq (show ¬s.size<=12 by omega)];simp
  rw[hR]
  go_enter Tryz.func103,Tryz.ntmps103
  go_wp2_with (fail)
  all_goals
   go_returns
   exact⟨rfl,bl⟩
 have hc0:(s[0].toNat:Int)<256:=by have:=s[0].toNat_lt;omega
 have hH:=hide (FO (s:=s) aB)
 have hR0:=hide (show nameB s=(!sN s[0].toNat && !Ht s&&Tr s) by unfold nameB;rw[hH.out,ar (show 1<=s.size by omega),ar h2];simp)
 clear hH

 cases hg:xC s[0].toNat
 case false =>
  have hR1:nameB s=false:=by
   cases hdg:sN s[0].toNat
   ·
    rw[hR0.out,Hu 0 aB hg hdg];simp
   ·
    rw[hR0.out,hdg];rfl
  rw[hR1]
  go_enter Tryz.func103,Tryz.ntmps103
  go_wp2_with (first | (go_at_call 137;(with_reducible refine (lC _ _ aB aB).mono ?_);rintro e w1 ⟨rfl,rfl⟩) | (go_at_call 138;refine (jA s _).mono ?_;rintro e w3 ⟨rfl,hb3⟩))
  all_goals
   go_returns
   exact⟨rfl,bl⟩
 have hnd:=FN hg

 cases hr:Ht s
 case true =>
  have hR1:nameB s=false:=by rw[hR0.out,hr];simp
  rw[hR1]
  go_enter Tryz.func103,Tryz.ntmps103
  go_wp2_with (first | (go_at_call 137;(with_reducible refine (lC _ _ aB aB).mono ?_);rintro e w1 ⟨rfl,rfl⟩) | (go_at_call 139;(with_reducible refine (nz _ _ aB aB).mono ?_);rintro e w2 ⟨rfl,rfl⟩) | (go_at_call 138;refine (jA s _).mono ?_;rintro e w3 ⟨rfl,hb3⟩))
  all_goals
   go_returns
   exact⟨rfl,bl⟩
 have hR1:=hide (show nameB s=Tr s by rw[hR0.out,hr,hnd];simp)
 clear hR0
 go_enter Tryz.func103,Tryz.ntmps103
 go_wp2_with (first | (go_at_call 137;(with_reducible refine (lC _ _ aB aB).mono ?_);rintro e w1 ⟨rfl,rfl⟩) | (go_at_call 139;(with_reducible refine (nz _ _ aB aB).mono ?_);rintro e w2 ⟨rfl,rfl⟩) | (go_at_call 138;refine (jA s _).mono ?_;rintro e w3 ⟨rfl,hb3⟩))
 go_loopw [3] (fun v wr=>∃m:Nat,v=.int .i64 m/\m<=s.size/\Hid (∀j (hj:j<s.size),j<m->xC s[j].toNat=true\/sN s[j].toNat=true)/\cE w wr) (fun v _=>s.size - (intOf v).toNat)
 case atStart=>exact⟨0,rfl,by omega,fun j _ hj=>by omega,bl⟩
 case round =>
  obtain⟨m,rfl,m1,hm,hbw⟩:=hrel
  by_cases h3:m<s.size
  ·
   have hd:decide ((m:Int)<(s.size:Int))=true:=ct
   have hcm:(s[m].toNat:Int)<256:=by have:=s[m].toNat_lt;omega
   cases hl:xC s[m].toNat <;> cases hdg:sN s[m].toNat
   ·
    have hR2:=hide (hR1.out.trans (Hu m h3 hl hdg))
    go_wp2_with (first | (go_at_call 137;(with_reducible refine (lC _ _ aB aB).mono ?_);rintro e w1 ⟨rfl,rfl⟩) | (go_at_call 139;(with_reducible refine (nz _ _ aB aB).mono ?_);rintro e w2 ⟨rfl,rfl⟩) | (go_at_call 138;refine (jA s _).mono ?_;rintro e w3 ⟨rfl,hb3⟩))
    all_goals
     go_returns
     exact⟨by rw[hR2.out];first | done | rfl,bl⟩
   all_goals
    go_wp2_with (first | (go_at_call 137;(with_reducible refine (lC _ _ aB aB).mono ?_);rintro e w1 ⟨rfl,rfl⟩) | (go_at_call 139;(with_reducible refine (nz _ _ aB aB).mono ?_);rintro e w2 ⟨rfl,rfl⟩) | (go_at_call 138;refine (jA s _).mono ?_;rintro e w3 ⟨rfl,hb3⟩))
    go_roundw
    case rel=>exact⟨m+1,by go_num,by omega,fun j hj hjm=>by
     by_cases e:j=m
     ·
      subst e;first | exact Or.inl hl | exact Or.inr hdg
     ·
      exact hm.out j hj aB,bl⟩
    case measure=>simp[intOf];omega
  ·
   have hd:decide ((m:Int)<(s.size:Int))=false:=ct
   have hR2:=hide (hR1.out.trans (Jz fun k hk=>hm.out k hk aB))
   go_wp2_with (fail)
   all_goals
    go_returns
    exact⟨by rw[hR2.out];first | done | rfl,bl⟩
theorem mU (b:Int) (w:World) (h0:0<=b) (h1:b<256):Calls Tryz.prog 129 #[.int .u8 b] w fun e w'=>e=.returned (.bool (xC b))/\w=w':=by
 unfold xC
 go_enter Tryz.func129,Tryz.ntmps129
 go_wp2
 all_goals
  go_returns
  go_light
  refine⟨?_,rfl⟩
  simp only[Array.getD_eq_getD_getElem?,List.getElem?_toArray,List.getElem?_cons_succ,List.getElem?_cons_zero,Option.getD_some]
  first | done | (simp_all;done) | (simp_all;omega) | (rw[Ending.returned.injEq,Value.bool.injEq,Bool.eq_iff_iff];simp;omega) | (simp only[Ending.returned.injEq,Value.bool.injEq];rw[Bool.eq_iff_iff];simp;omega)
theorem lV (b:Int) (w:World) (h0:0<=b) (h1:b<256):Calls Tryz.prog 127 #[.int .u8 b] w fun e w'=>e=.returned (.bool (sN b))/\w=w':=by
 unfold sN
 go_enter Tryz.func127,Tryz.ntmps127
 go_wp2
 all_goals
  go_returns
  go_light
  refine⟨?_,rfl⟩
  simp only[Array.getD_eq_getD_getElem?,List.getElem?_toArray,List.getElem?_cons_succ,List.getElem?_cons_zero,Option.getD_some]
  first | done | (simp_all;done) | (simp_all;omega) | (rw[Ending.returned.injEq,Value.bool.injEq,Bool.eq_iff_iff];simp;omega) | (simp only[Ending.returned.injEq,Value.bool.injEq];rw[Bool.eq_iff_iff];simp;omega)
theorem mS (s:ByteArray) (w:World) (ht:Sp w) :
  Calls Tryz.prog 94 #[.string s] w fun e w'=>e=.returned (.bool (nameB s))/\cE w w':=by
 have HT:=hide ht
 clear ht
 rcases Nat.lt_or_ge s.size 1 with h1 | h1
 ·
  have hR:nameB s=false:=by unfold nameB;rw[aq aB];rfl
  have hd:decide ((s.size:Int)<1)=true:=ar aB
  have hd':decide (s.size<1)=true:=ar aB
  rw[hR]
  go_enter Tryz.func94,Tryz.ntmps94
  go_wp2_with (fail)
  all_goals
   go_returns
   exact⟨rfl,bl⟩
 rcases Nat.lt_or_ge 12 s.size with h2 | h2
 ·
  have hR:nameB s=false:=by unfold nameB;rw[aq (show ¬s.size<=12 by omega)];simp
  rw[hR]
  go_enter Tryz.func94,Tryz.ntmps94
  go_wp2_with (fail)
  all_goals
   go_returns
   exact⟨rfl,bl⟩
 have hc0:(s[0].toNat:Int)<256:=by have:=s[0].toNat_lt;omega
 have hH:=hide (FO (s:=s) aB)
 have hR0:=hide (show nameB s=(!sN s[0].toNat && !Ht s&&Tr s) by unfold nameB;rw[hH.out,ar (show 1<=s.size by omega),ar h2];simp)
 clear hH

 cases hg:sN s[0].toNat
 case true =>
  rw[hR0.out]
  go_enter Tryz.func94,Tryz.ntmps94
  go_wp2_with (first | (go_at_call 127;(with_reducible refine (lV _ _ aB aB).mono ?_);rintro e w2 ⟨rfl,rfl⟩) | (go_at_call 128;refine (jC s _ HT.out).mono ?_;rintro e w3 ⟨rfl,hb3⟩))
  all_goals
   go_returns
   exact⟨by rw[hg];first | done | rfl,bl⟩

 cases hr:Ht s
 case true =>
  have hR1:nameB s=false:=by rw[hR0.out,hr];simp
  rw[hR1]
  go_enter Tryz.func94,Tryz.ntmps94
  go_wp2_with (first | (go_at_call 129;(with_reducible refine (mU _ _ aB aB).mono ?_);rintro e w1 ⟨rfl,rfl⟩) | (go_at_call 127;(with_reducible refine (lV _ _ aB aB).mono ?_);rintro e w2 ⟨rfl,rfl⟩) | (go_at_call 128;refine (jC s _ HT.out).mono ?_;rintro e w3 ⟨rfl,hb3⟩))
  all_goals
   go_returns
   exact⟨rfl,bl⟩
 have hR1:=hide (show nameB s=Tr s by rw[hR0.out,hr,hg];simp)
 clear hR0
 go_enter Tryz.func94,Tryz.ntmps94
 go_wp2_with (first | (go_at_call 129;(with_reducible refine (mU _ _ aB aB).mono ?_);rintro e w1 ⟨rfl,rfl⟩) | (go_at_call 127;(with_reducible refine (lV _ _ aB aB).mono ?_);rintro e w2 ⟨rfl,rfl⟩) | (go_at_call 128;refine (jC s _ HT.out).mono ?_;rintro e w3 ⟨rfl,hb3⟩))
 go_loopw [3] (fun v wr=>∃m:Nat,v=.int .i64 m/\m<=s.size/\Hid (∀j (hj:j<s.size),j<m->xC s[j].toNat=true\/sN s[j].toNat=true)/\cE w wr) (fun v _=>s.size - (intOf v).toNat)
 case atStart=>exact⟨0,rfl,by omega,fun j _ hj=>by omega,bl⟩
 case round =>
  obtain⟨m,rfl,m1,hm,hbw⟩:=hrel
  by_cases h3:m<s.size
  ·
   have hd:decide ((m:Int)<(s.size:Int))=true:=ct
   have hcm:(s[m].toNat:Int)<256:=by have:=s[m].toNat_lt;omega
   cases hl:xC s[m].toNat <;> cases hdg:sN s[m].toNat
   ·
    have hR2:=hide (hR1.out.trans (Hu m h3 hl hdg))
    go_wp2_with (first | (go_at_call 129;(with_reducible refine (mU _ _ aB aB).mono ?_);rintro e w1 ⟨rfl,rfl⟩) | (go_at_call 127;(with_reducible refine (lV _ _ aB aB).mono ?_);rintro e w2 ⟨rfl,rfl⟩) | (go_at_call 128;refine (jC s _ HT.out).mono ?_;rintro e w3 ⟨rfl,hb3⟩))
    all_goals
     go_returns
     exact⟨by rw[hR2.out];first | done | rfl,bl⟩
   all_goals
    go_wp2_with (first | (go_at_call 129;(with_reducible refine (mU _ _ aB aB).mono ?_);rintro e w1 ⟨rfl,rfl⟩) | (go_at_call 127;(with_reducible refine (lV _ _ aB aB).mono ?_);rintro e w2 ⟨rfl,rfl⟩) | (go_at_call 128;refine (jC s _ HT.out).mono ?_;rintro e w3 ⟨rfl,hb3⟩))
    go_roundw
    case rel=>exact⟨m+1,by go_num,by omega,fun j hj hjm=>by
     by_cases e:j=m
     ·
      subst e;first | exact Or.inl hl | exact Or.inr hdg
     ·
      exact hm.out j hj aB,bl⟩
    case measure=>simp[intOf];omega
  ·
   have hd:decide ((m:Int)<(s.size:Int))=false:=ct
   have hR2:=hide (hR1.out.trans (Jz fun k hk=>hm.out k hk aB))
   go_wp2_with (fail)
   all_goals
    go_returns
    exact⟨by rw[hR2.out];first | done | rfl,bl⟩
abbrev Ba (l:List ByteArray):List (List Dat):=l.map fun x=>[Dat.str x]
theorem yL {b o len c m:Nat} (h:m<=c) (w:World):(Instr.slice 24 (.slice (some ⟨b,o,none⟩) len c) none (some (.int .i64 (m:Int))) none).run Tryz.prog w=.ok (.slice (some ⟨b,o,none⟩) m c) w:=by
 rw[run_slice_h (P:=Tryz.prog) (ht:=by rw[Tryz.underlying24];kernel_rfl) (h0:=by omega) (h2:=by omega)]
 simp[sliced,go_sem,Tryz.sizeOf9,Addr.add]
theorem tB (l:List ByteArray) (k:Nat) (h:k<l.length):l.getD k ByteArray.empty=l[k]:=by simp[List.getD,h]
theorem yM (x:ByteArray):∀(l:List ByteArray) (j i:Nat) (h:j<l.length),l[j]=x->Lib.idxFromS l x i<=((i+j:Nat):Int)
 | z :: r,j,i,h,he=>by
  rw[Lib.idxFromS]
  split
  ·
   omega
  ·
   rename_i hz
   cases j with
   | zero=>exact absurd (by simpa using he) hz
   | succ j =>
    have:=yM x r j (i+1) bM (by simpa using he)
    omega
theorem Lm (l:List ByteArray) (x:ByteArray) (j:Nat) (h:j<l.length) (he:l[j]=x) (i:Nat) (hi:j<i):Lib.idxOfS l x<(i:Int):=by
 have:=yM x l j 0 h he
 rw[Lib.idxOfS]
 omega
def pR (l:List ByteArray):Bool:=(List.range l.length).any fun i=>Lib.containsS (l.take i) (l.getD i ByteArray.empty)
theorem CB {l:List ByteArray} (i:Nat) (hi:i<l.length) (h:Lib.containsS (l.take i) l[i]=true):pR l=true:=by
 unfold pR
 rw[List.any_eq_true]
 exact⟨i,List.mem_range.2 hi,by rw[tB l i hi];exact h⟩
theorem FP {l:List ByteArray} (h:∀i (hi:i<l.length),Lib.containsS (l.take i) l[i]=false):pR l=false:=by
 unfold pR
 rw[List.any_eq_false]
 intro i hi
 have hi':=List.mem_range.1 hi
 rw[tB l i hi',h i hi']
 simp
theorem Bb {l:List ByteArray} {i:Nat} (hi:i<l.length):decide (Lib.idxOfS l l[i]<(i:Int))=Lib.containsS (l.take i) l[i]:=by
 rw[Bool.eq_iff_iff,decide_eq_true_eq,Lib.containsS_iff]
 constructor
 ·
  intro h
  apply Classical.byContradiction
  intro hn
  have hh:=Lib.idxFromS_hit l[i] l i 0 hi (by rw[tB l i hi]) (fun j hj he=>hn (by
   rw[tB l j aB]at he
   rw[<-he]
   exact List.mem_iff_getElem.2 ⟨j,by simp;omega,by simp⟩))
  rw[Lib.idxOfS,hh]at h
  omega
 ·
  intro h
  obtain⟨j,hj,he⟩:=List.mem_iff_getElem.1 h
  rw[List.getElem_take]at he
  have hji:j<i:=by simp at hj;omega
  exact Lm l l[i] j aB he i hji
theorem Row.strs {w:World} {S:Nat->Prop} {b o c:Nat} {l:List ByteArray} (h:Row w S 1 (some ⟨b,o,none⟩) c (Ba l)):∀j,j<l.length->w.cell? ⟨b,o+j,none⟩=some (.string (l.getD j ByteArray.empty)):=by
 intro j hj
 obtain⟨b',o',hA,-,-,-,hc⟩:=qU h j hj
 injection Option.some.inj hA with q1 q2 _
 subst q1 q2
 rw[tB l j hj]
 exact hc
theorem Row.addr {w:World} {S:Nat->Prop} {k c:Nat} {A:Option Addr} {xs:List (List Dat)} (h:Row w S k A c xs) (hne:0<xs.length):∃b o,A=some ⟨b,o,none⟩/\S b/\b<w.heap.size:=by
 obtain⟨b,o,h1,h2,h3,-⟩:=h.2.2 (fun e=>by rw[e]at hne;simp at hne)
 exact⟨b,o,h1,h2,h3⟩
theorem uW (l:List ByteArray) (n:Nat) (x:ByteArray) (S:Nat->Prop) (w:World) (A:Option Addr) (c c':Nat) (hR:Row w S 1 A c' (Ba l)) (hn:n<=l.length) :
  Calls Tryz.prog 130 #[.slice A n c,.string x] w fun e w'=>e=.returned (.bool (Lib.containsS (l.take n) x))/\w=w':=by
 rcases Nat.eq_zero_or_pos n with h0 | h0
 ·
  subst h0
  have:=Tryz.slices_Contains_string_empty A c x w
  exact this.mono fun e w' ⟨h1,h2⟩=>⟨by rw[h1];rfl,h2.symm⟩
 ·
  obtain⟨b,o,rfl,-,-⟩:=hR.addr aD
  have hb:=hR.2.1
  have hl:=hR.1
  simp only[aj]at hl
  unfold maxLen at hb
  exact (Tryz.slices_Contains_string b o n c l x w hn aB hR.strs).mono fun e w' ⟨h1,h2⟩=>⟨h1,h2.symm⟩
theorem Bc (l:List ByteArray) (x:ByteArray) (S:Nat->Prop) (w:World) (A:Option Addr) (c:Nat) (hR:Row w S 1 A c (Ba l)) :
  Calls Tryz.prog 140 #[.slice A l.length c,.string x] w fun e w'=>e=.returned (.int .i64 (Lib.idxOfS l x))/\w=w':=by
 have HR:=hide hR
 have hlen:=hR.1
 have hcm:=hR.2.1
 simp only[aj]at hlen
 unfold maxLen at hcm
 clear hR
 go_enter Tryz.func140,Tryz.ntmps140
 go_wp2_with (fail)
 go_loopw [5] (fun v wr=>∃m:Nat,v=.int .i64 m/\m<=l.length/\Hid (∀j,j<m->l.getD j ByteArray.empty≠x)/\wr=w) (fun v _=>l.length - (intOf v).toNat)
 case atStart=>exact⟨0,rfl,by omega,fun j hj=>by omega,rfl⟩
 case round =>
  obtain⟨m,rfl,m1,hm,rfl⟩:=hrel
  by_cases h1:m<l.length
  ·
   have hd:decide ((m:Int)<(l.length:Int))=true:=aX
   obtain⟨b1,o1,hA1,hS1,hl1,hz1,c1⟩:=qU HR.out m h1
   subst hA1
   have hw:IntKind.i64.wrap ((m:Int)+1)=(m:Int)+1:=bf
   by_cases hx:l[m]=x
   ·
    have hRr:Lib.idxOfS l x=m:=by
     have:=Lib.idxFromS_hit x l m 0 h1 (by simp[List.getD,h1,hx]) hm.out
     simpa[Lib.idxOfS]using this
    go_wp2_with (fail)
    all_goals
     go_returns
     exact⟨by rw[hRr];first | done | rfl,rfl⟩
   ·
    have hd2:(l[m].toList==x.toList)=false:=by rw[aw];exact fun h=>hx ((ba_eq _ _).1 h)
    go_wp2_with (fail)
    exact⟨⟨m+1,rfl,h1,fun j hj=>by
     by_cases e:j=m
     ·
      subst e;simpa[List.getD,h1]using hx
     ·
      exact hm.out j aB,trivial⟩,by simp only[intOf];omega⟩
  ·
   have hd:decide ((m:Int)<(l.length:Int))=false:=aX
   have hRr:Lib.idxOfS l x = -1:=Lib.idxFromS_miss x l 0 fun j hj=>hm.out j aB
   go_wp2_with (fail)
   all_goals
    go_returns
    exact⟨by rw[hRr];first | done | rfl,rfl⟩
theorem qd (l:List ByteArray) (most:Int) (S:Nat->Prop) (w:World) (A:Option Addr) (c:Nat) (hR:Row w S 1 A c (Ba l)) :
  Calls Tryz.prog 102 #[.slice A l.length c,.int .i64 most] w fun e w'=>e=.returned (.bool (l.all nameB&&decide ((l.length:Int)<=most)))/\cE w w':=by
 have HR:=hide hR
 have hlen:=hR.1
 have hcm:=hR.2.1
 simp only[aj]at hlen
 unfold maxLen at hcm
 clear hR
 go_enter Tryz.func102,Tryz.ntmps102
 go_wp2_with (fail)
 go_loopw [5] (fun v wr=>∃m:Nat,v=.int .i64 m/\m<=l.length/\Hid (∀j (hj:j<l.length),j<m->nameB l[j]=true)/\cE w wr) (fun v _=>l.length - (intOf v).toNat)
 case atStart=>exact⟨0,rfl,by omega,fun j _ hj=>by omega,cE.refl _⟩
 case round =>
  obtain⟨m,rfl,m1,hm,hbw⟩:=hrel
  by_cases h1:m<l.length
  ·
   have hd:decide ((m:Int)<(l.length:Int))=true:=aX
   obtain⟨b1,o1,hA1,hS1,hl1,hz1,c1⟩:=qU HR.out m h1
   subst hA1
   replace c1:=(hbw.box b1 hl1 _).trans c1
   cases hn:nameB l[m]
   ·
    have HA:=hide (show l.all nameB=false from List.all_eq_false.2 ⟨l[m],List.getElem_mem h1,by rw[hn];simp⟩)
    go_wp2_with ((go_at_call 103;refine (mQ l[m] _).mono ?_;rintro e w1 ⟨rfl,hb1⟩))
    all_goals
     go_returns
     exact⟨by rw[HA.out];simp,bl⟩
   ·
    go_wp2_with ((go_at_call 103;refine (mQ l[m] _).mono ?_;rintro e w1 ⟨rfl,hb1⟩))
    go_roundw
    case rel=>exact⟨m+1,by go_num,by omega,fun j hj hjm=>by
     by_cases e:j=m
     ·
      subst e;exact hn
     ·
      exact hm.out j hj aB,bl⟩
    case measure=>simp[intOf];omega
  ·
   have hd:decide ((m:Int)<(l.length:Int))=false:=aX
   have HA:=hide (show l.all nameB=true from List.all_eq_true.2 fun x hx=>by
    obtain⟨k,hk,rfl⟩:=List.mem_iff_getElem.1 hx
    exact hm.out k hk aB)
   go_wp2_with (fail)
   all_goals
    go_returns
    exact⟨by rw[HA.out];simp_all,bl⟩
theorem mT (l:List ByteArray) (S:Nat->Prop) (w:World) (A:Option Addr) (c:Nat) (hR:Row w S 1 A c (Ba l)) (ht:Sp w) :
  Calls Tryz.prog 37 #[.slice A l.length c] w fun e w'=>e=.returned (.bool (l.all nameB))/\cE w w':=by
 have HR:=hide hR
 have hlen:=hR.1
 have hcm:=hR.2.1
 simp only[aj]at hlen
 unfold maxLen at hcm
 clear hR
 have HT:=hide ht
 clear ht
 go_enter Tryz.func37,Tryz.ntmps37
 go_wp2_with (fail)
 go_loopw [7] (fun v wr=>∃m:Nat,v=.int .i64 m/\m<=l.length/\Hid (∀j (hj:j<l.length),j<m->nameB l[j]=true)/\cE w wr) (fun v _=>l.length - (intOf v).toNat)
 case atStart=>exact⟨0,rfl,by omega,fun j _ hj=>by omega,cE.refl _⟩
 case round =>
  obtain⟨m,rfl,m1,hm,hbw⟩:=hrel
  by_cases h1:m<l.length
  ·
   have hd:decide ((m:Int)<(l.length:Int))=true:=aX
   obtain⟨b1,o1,hA1,hS1,hl1,hz1,c1⟩:=qU HR.out m h1
   subst hA1
   replace c1:=(hbw.box b1 hl1 _).trans c1
   cases hn:nameB l[m]
   ·
    have HA:=hide (show l.all nameB=false from List.all_eq_false.2 ⟨l[m],List.getElem_mem h1,by rw[hn];simp⟩)
    go_wp2_with ((go_at_call 94;refine (mS l[m] _ (HT.out.on bl)).mono ?_;rintro e w1 ⟨rfl,hb1⟩))
    all_goals
     go_returns
     exact⟨by rw[HA.out];simp,bl⟩
   ·
    go_wp2_with ((go_at_call 94;refine (mS l[m] _ (HT.out.on bl)).mono ?_;rintro e w1 ⟨rfl,hb1⟩))
    go_roundw
    case rel=>exact⟨m+1,by go_num,by omega,fun j hj hjm=>by
     by_cases e:j=m
     ·
      subst e;exact hn
     ·
      exact hm.out j hj aB,bl⟩
    case measure=>simp[intOf];omega
  ·
   have hd:decide ((m:Int)<(l.length:Int))=false:=aX
   have HA:=hide (show l.all nameB=true from List.all_eq_true.2 fun x hx=>by
    obtain⟨k,hk,rfl⟩:=List.mem_iff_getElem.1 hx
    exact hm.out k hk aB)
   go_wp2_with (fail)
   all_goals
    go_returns
    exact⟨by rw[HA.out];rfl,bl⟩
theorem yH (l:List ByteArray) (S:Nat->Prop) (w:World) (A:Option Addr) (c:Nat) (hR:Row w S 1 A c (Ba l)) :
  Calls Tryz.prog 104 #[.slice A l.length c] w fun e w'=>e=.returned (.bool (pR l))/\cE w w':=by
 have HR:=hide hR
 have hlen:=hR.1
 have hcm:=hR.2.1
 simp only[aj]at hlen
 unfold maxLen at hcm
 clear hR
 go_enter Tryz.func104,Tryz.ntmps104
 go_wp2_with (fail)
 go_loopw [3] (fun v wr=>∃m:Nat,v=.int .i64 m/\m<=l.length/\Hid (∀j (hj:j<l.length),j<m->Lib.containsS (l.take j) l[j]=false)/\cE w wr) (fun v _=>l.length - (intOf v).toNat)
 case atStart=>exact⟨0,rfl,by omega,fun j _ hj=>by omega,cE.refl _⟩
 case round =>
  obtain⟨m,rfl,m1,hm,hbw⟩:=hrel
  by_cases h1:m<l.length
  ·
   have hd:decide ((m:Int)<(l.length:Int))=true:=aX
   obtain⟨b1,o1,hA1,hS1,hl1,hz1,c1⟩:=qU HR.out m h1
   subst hA1
   replace c1:=(hbw.box b1 hl1 _).trans c1
   have HI:=hide (Bb h1)
   cases hn:Lib.containsS (l.take m) l[m]
   ·
    have hix:decide (Lib.idxOfS l l[m]<(m:Int))=false:=HI.out.trans hn
    go_wp2_with ((go_at_call 140;refine (Bc l l[m] S _ _ _ (Row.bel bl HR.out)).mono ?_;rintro e w' ⟨rfl,rfl⟩))
    go_roundw
    case rel=>exact⟨m+1,by go_num,by omega,fun j hj hjm=>by
     by_cases e:j=m
     ·
      subst e;exact hn
     ·
      exact hm.out j hj aB,bl⟩
    case measure=>simp[intOf];omega
   ·
    have hix:decide (Lib.idxOfS l l[m]<(m:Int))=true:=HI.out.trans hn
    have HA:=hide (CB m h1 hn)
    go_wp2_with ((go_at_call 140;refine (Bc l l[m] S _ _ _ (Row.bel bl HR.out)).mono ?_;rintro e w' ⟨rfl,rfl⟩))
    all_goals
     go_returns
     exact⟨by rw[HA.out];first | done | rfl,bl⟩
  ·
   have hd:decide ((m:Int)<(l.length:Int))=false:=aX
   have HA:=hide (FP (l:=l) fun k hk=>hm.out k hk aB)
   go_wp2_with (fail)
   all_goals
    go_returns
    exact⟨by rw[HA.out];first | done | rfl,bl⟩
theorem xA (l:List ByteArray) (S:Nat->Prop) (w:World) (A:Option Addr) (c:Nat) (hR:Row w S 1 A c (Ba l)) :
  Calls Tryz.prog 95 #[.slice A l.length c] w fun e w'=>e=.returned (.bool (pR l))/\cE w w':=by
 have HR:=hide hR
 have hlen:=hR.1
 have hcm:=hR.2.1
 simp only[aj]at hlen
 unfold maxLen at hcm
 clear hR
 go_enter Tryz.func95,Tryz.ntmps95
 go_wp2_with (fail)
 go_loopw [6] (fun v wr=>∃m:Nat,v=.int .i64 m/\m<=l.length/\Hid (∀j (hj:j<l.length),j<m->Lib.containsS (l.take j) l[j]=false)/\cE w wr) (fun v _=>l.length - (intOf v).toNat)
 case atStart=>exact⟨0,rfl,by omega,fun j _ hj=>by omega,cE.refl _⟩
 case round =>
  obtain⟨m,rfl,m1,hm,hbw⟩:=hrel
  by_cases h1:m<l.length
  ·
   have hd:decide ((m:Int)<(l.length:Int))=true:=aX
   obtain⟨b1,o1,hA1,hS1,hl1,hz1,c1⟩:=qU HR.out m h1
   subst hA1
   replace c1:=(hbw.box b1 hl1 _).trans c1
   have HI:=hide (Bb h1)
   cases hn:Lib.containsS (l.take m) l[m]
   ·
    have hix:decide (Lib.idxOfS l l[m]<(m:Int))=false:=HI.out.trans hn
    go_wp2_with (fail)
    have hsl:=fun wx=>yL (b:=b1) (o:=o1) (len:=l.length) (c:=c) (m:=m) aB wx
    have HCQ:=hide (fun (wx:World) (hx:cE w wx)=>(by have:=uW l m l[m] S wx (some ⟨b1,o1,none⟩) c c (Row.bel hx HR.out) aB;rw[hn]at this;exact this))
    go_quiet ((go_at_call 130;exact Er (HCQ.out _ bl)))
    go_wp2_with (fail)
    go_roundw
    case rel=>exact⟨m+1,by go_num,by omega,fun j hj hjm=>by
     by_cases e:j=m
     ·
      subst e;exact hn
     ·
      exact hm.out j hj aB,bl⟩
    case measure=>simp[intOf];omega
   ·
    have hix:decide (Lib.idxOfS l l[m]<(m:Int))=true:=HI.out.trans hn
    have HA:=hide (CB m h1 hn)
    go_wp2_with (fail)
    have hsl:=fun wx=>yL (b:=b1) (o:=o1) (len:=l.length) (c:=c) (m:=m) aB wx
    have HCQ:=hide (fun (wx:World) (hx:cE w wx)=>(by have:=uW l m l[m] S wx (some ⟨b1,o1,none⟩) c c (Row.bel hx HR.out) aB;rw[hn]at this;exact this))
    go_quiet ((go_at_call 130;exact Er (HCQ.out _ bl)))
    go_wp2_with (fail)
    all_goals
     go_returns
     exact⟨by rw[HA.out];first | done | rfl,bl⟩
  ·
   have hd:decide ((m:Int)<(l.length:Int))=false:=aX
   have HA:=hide (FP (l:=l) fun k hk=>hm.out k hk aB)
   go_wp2_with (fail)
   all_goals
    go_returns
    exact⟨by rw[HA.out];first | done | rfl,bl⟩
def cG (w:World) (S:Nat->Prop) (q:Nat) (t:cv):Prop:=q<w.heap.size/\∃vs,Dat.cC w S t.D vs/\∀j,j<13->w.cell? ⟨q,j,none⟩=vs[j]?
theorem cG.bel {w w':World} {S:Nat->Prop} {q:Nat} {t:cv} (hb:cE w w') (h:cG w S q t):cG w' S q t:=by
 obtain⟨hq,vs,hv,hc⟩:=h
 exact⟨ak hq hb.size,vs,hv.bel hb,fun j hj=>(hb.box q hq j).trans (hc j hj)⟩
theorem cG.cells {w:World} {S:Nat->Prop} {q:Nat} {x0:List ByteArray} {x1:List cA} {x2:List cz} {x3:List cw} {x4:ByteArray} {x5:Int} {x6:List ByteArray} {x7:List ByteArray} {x8:List cJ} {x9:Bool} {x10:Int} {x11:Int} {x12:Int} (h:cG w S q (.mk x0 x1 x2 x3 x4 x5 x6 x7 x8 x9 x10 x11 x12)) :
  ∃A0 c0 A1 c1 A2 c2 A3 c3 A6 c6 A7 c7 A8 c8,q<w.heap.size/\w.cell? ⟨q,0,none⟩=some (.slice A0 x0.length c0)/\w.cell? ⟨q,1,none⟩=some (.slice A1 x1.length c1)/\w.cell? ⟨q,2,none⟩=some (.slice A2 x2.length c2)/\w.cell? ⟨q,3,none⟩=some (.slice A3 x3.length c3)/\w.cell? ⟨q,4,none⟩=some (.string x4)/\w.cell? ⟨q,5,none⟩=some (.int .i64 x5)/\w.cell? ⟨q,6,none⟩=some (.slice A6 x6.length c6)/\w.cell? ⟨q,7,none⟩=some (.slice A7 x7.length c7)/\w.cell? ⟨q,8,none⟩=some (.slice A8 x8.length c8)/\w.cell? ⟨q,9,none⟩=some (.bool x9)/\w.cell? ⟨q,10,none⟩=some (.int .i64 x10)/\w.cell? ⟨q,11,none⟩=some (.int .i64 x11)/\w.cell? ⟨q,12,none⟩=some (.int .i64 x12)/\Row w S 1 A0 c0 (x0.map fun x=>[.str x])/\Row w S 3 A1 c1 (x1.map cA.D)/\Row w S 5 A2 c2 (x2.map cz.D)/\Row w S 6 A3 c3 (x3.map cw.D)/\x4.size<=maxLen/\fD x5/\Row w S 1 A6 c6 (x6.map fun x=>[.str x])/\Row w S 1 A7 c7 (x7.map fun x=>[.str x])/\Row w S 2 A8 c8 (x8.map cJ.D)/\fD x10/\fD x11/\fD x12:=by
 obtain⟨hq,vs,hv,hc⟩:=h
 obtain⟨A0,c0,A1,c1,A2,c2,A3,c3,A6,c6,A7,c7,A8,c8,rfl,g0,g1,g2,g3,g4,g5,g6,g7,g8,-,g10,g11,g12⟩:=cv.vals hv
 exact⟨_,_,_,_,_,_,_,_,_,_,_,_,_,_,hq,hc 0 aF,hc 1 aF,hc 2 aF,hc 3 aF,hc 4 aF,hc 5 aF,hc 6 aF,hc 7 aF,hc 8 aF,hc 9 aF,hc 10 aF,hc 11 aF,hc 12 aF,g0,g1,g2,g3,g4,g5,g6,g7,g8,g10,g11,g12⟩
theorem cG.opn {w:World} {S:Nat->Prop} {q:Nat} {x0:List ByteArray} {x1:List cA} {x2:List cz} {x3:List cw} {x4:ByteArray} {x5:Int} {x6:List ByteArray} {x7:List ByteArray} {x8:List cJ} {x9:Bool} {x10:Int} {x11:Int} {x12:Int} (h:cG w S q (.mk x0 x1 x2 x3 x4 x5 x6 x7 x8 x9 x10 x11 x12)) :
 ∃A0 c0 A1 c1 A2 c2 A3 c3 A6 c6 A7 c7 A8 c8,q<w.heap.size/\w.cell? ⟨q,0,none⟩=some (.slice A0 x0.length c0)/\w.cell? ⟨q,1,none⟩=some (.slice A1 x1.length c1)/\w.cell? ⟨q,2,none⟩=some (.slice A2 x2.length c2)/\w.cell? ⟨q,3,none⟩=some (.slice A3 x3.length c3)/\w.cell? ⟨q,4,none⟩=some (.string x4)/\w.cell? ⟨q,5,none⟩=some (.int .i64 x5)/\w.cell? ⟨q,6,none⟩=some (.slice A6 x6.length c6)/\w.cell? ⟨q,7,none⟩=some (.slice A7 x7.length c7)/\w.cell? ⟨q,8,none⟩=some (.slice A8 x8.length c8)/\w.cell? ⟨q,9,none⟩=some (.bool x9)/\w.cell? ⟨q,10,none⟩=some (.int .i64 x10)/\w.cell? ⟨q,11,none⟩=some (.int .i64 x11)/\w.cell? ⟨q,12,none⟩=some (.int .i64 x12)/\x0.length<=c0/\c0<=2 ^ 63 - 1/\x1.length<=c1/\c1<=2 ^ 63 - 1/\x2.length<=c2/\c2<=2 ^ 63 - 1/\x3.length<=c3/\c3<=2 ^ 63 - 1/\x6.length<=c6/\c6<=2 ^ 63 - 1/\x7.length<=c7/\c7<=2 ^ 63 - 1/\x8.length<=c8/\c8<=2 ^ 63 - 1/\x4.size<=2 ^ 63 - 1/\fD x5/\fD x10/\fD x11/\fD x12/\Hid (Row w S 1 A0 c0 (x0.map fun x=>[.str x]))/\Hid (Row w S 3 A1 c1 (x1.map cA.D))/\Hid (Row w S 5 A2 c2 (x2.map cz.D))/\Hid (Row w S 6 A3 c3 (x3.map cw.D))/\Hid (Row w S 1 A6 c6 (x6.map fun x=>[.str x]))/\Hid (Row w S 1 A7 c7 (x7.map fun x=>[.str x]))/\Hid (Row w S 2 A8 c8 (x8.map cJ.D)):=by
 obtain⟨A0,c0,A1,c1,A2,c2,A3,c3,A6,c6,A7,c7,A8,c8,hq,e0,e1,e2,e3,e4,e5,e6,e7,e8,e9,e10,e11,e12,g0,g1,g2,g3,g4,g5,g6,g7,g8,g10,g11,g12⟩:=cG.cells h
 have hl0:=g0.1
 have hm0:=g0.2.1
 simp only[aj]at hl0
 unfold maxLen at hm0
 have hl1:=g1.1
 have hm1:=g1.2.1
 simp only[aj]at hl1
 unfold maxLen at hm1
 have hl2:=g2.1
 have hm2:=g2.2.1
 simp only[aj]at hl2
 unfold maxLen at hm2
 have hl3:=g3.1
 have sK:=g3.2.1
 simp only[aj]at hl3
 unfold maxLen at sK
 have SA:=g6.1
 have hm6:=g6.2.1
 simp only[aj]at SA
 unfold maxLen at hm6
 have SD:=g7.1
 have hm7:=g7.2.1
 simp only[aj]at SD
 unfold maxLen at hm7
 have hl8:=g8.1
 have hm8:=g8.2.1
 simp only[aj]at hl8
 unfold maxLen at hm8
 unfold maxLen at g4
 exact⟨_,_,_,_,_,_,_,_,_,_,_,_,_,_,hq,e0,e1,e2,e3,e4,e5,e6,e7,e8,e9,e10,e11,e12,hl0,hm0,hl1,hm1,hl2,hm2,hl3,sK,SA,hm6,SD,hm7,hl8,hm8,g4,g5,g10,g11,g12,hide g0,hide g1,hide g2,hide g3,hide g6,hide g7,hide g8⟩
theorem cG.EX {w:World} {S:Nat->Prop} {t:cv} {vs:List Value} {cur:Array Value} {E:TypeId} (hv:Dat.cC w S t.D vs) (hc:cur=vs.toArray):cG (w.alloc (.cells cur E)) S w.heap.size t:=by
 subst hc
 have hl:=hv.length
 rw[cv.oO]at hl
 refine⟨by simp,vs,hv.bel (cE.alloc (cE.refl w) _),fun j hj=>?_⟩
 rw[World.cell?_alloc_mark]
 simp
def cw.v:cw->cV
 | .mk k n i t lo hi=>⟨k,n,i,t,lo,hi⟩
theorem cw.Ts (k n i:Int) (t:ByteArray) (lo hi:Int):(cw.mk k n i t lo hi).v=⟨k,n,i,t,lo,hi⟩:=rfl
def cz.kind:cz->Int | .mk k _ _ _ _=>k
def cz.tag:cz->Int | .mk _ t _ _ _=>t
def cz.gK:cz->Int | .mk _ _ s _ _=>s
def cz.items:cz->List cw | .mk _ _ _ i _=>i
def cz.keys:cz->List cw | .mk _ _ _ _ k=>k
def cA.name:cA->ByteArray | .mk n _ _=>n
def cA.fields:cA->List ByteArray | .mk _ f _=>f
def cA.line:cA->Int | .mk _ _ l=>l
def cJ.routine:cJ->Int | .mk r _=>r
def cJ.frame:cJ->Int | .mk _ f=>f
def cv.names:cv->List ByteArray | .mk x0 _ _ _ _ _ _ _ _ _ _ _ _=>x0
def cv.records:cv->List cA | .mk _ x1 _ _ _ _ _ _ _ _ _ _ _=>x1
def cv.objects:cv->List cz | .mk _ _ x2 _ _ _ _ _ _ _ _ _ _=>x2
def cv.globals:cv->List cw | .mk _ _ _ x3 _ _ _ _ _ _ _ _ _=>x3
def cv.subject:cv->ByteArray | .mk _ _ _ _ x4 _ _ _ _ _ _ _ _=>x4
def cv.position:cv->Int | .mk _ _ _ _ _ x5 _ _ _ _ _ _ _=>x5
def cv.output:cv->List ByteArray | .mk _ _ _ _ _ _ x6 _ _ _ _ _ _=>x6
def cv.rY:cv->List cJ | .mk _ _ _ _ _ _ _ _ x8 _ _ _ _=>x8
def cv.XN:cv->Int | .mk _ _ _ _ _ _ _ _ _ _ x10 _ _=>x10
def cv.budget:cv->Int | .mk _ _ _ _ _ _ _ _ _ _ _ x11 _=>x11
def cv.made:cv->Int | .mk _ _ _ _ _ _ _ _ _ _ _ _ x12=>x12
theorem cv.ji {x0:List ByteArray} {x1:List cA} {x2:List cz} {x3:List cw} {x4:ByteArray} {x5:Int} {x6:List ByteArray} {x7:List ByteArray} {x8:List cJ} {x9:Bool} {x10:Int} {x11:Int} {x12:Int}:(cv.mk x0 x1 x2 x3 x4 x5 x6 x7 x8 x9 x10 x11 x12).names=x0:=rfl
theorem cv.cD {x0:List ByteArray} {x1:List cA} {x2:List cz} {x3:List cw} {x4:ByteArray} {x5:Int} {x6:List ByteArray} {x7:List ByteArray} {x8:List cJ} {x9:Bool} {x10:Int} {x11:Int} {x12:Int}:(cv.mk x0 x1 x2 x3 x4 x5 x6 x7 x8 x9 x10 x11 x12).records=x1:=rfl
theorem cv.jz {x0:List ByteArray} {x1:List cA} {x2:List cz} {x3:List cw} {x4:ByteArray} {x5:Int} {x6:List ByteArray} {x7:List ByteArray} {x8:List cJ} {x9:Bool} {x10:Int} {x11:Int} {x12:Int}:(cv.mk x0 x1 x2 x3 x4 x5 x6 x7 x8 x9 x10 x11 x12).objects=x2:=rfl
theorem cv.gN {x0:List ByteArray} {x1:List cA} {x2:List cz} {x3:List cw} {x4:ByteArray} {x5:Int} {x6:List ByteArray} {x7:List ByteArray} {x8:List cJ} {x9:Bool} {x10:Int} {x11:Int} {x12:Int}:(cv.mk x0 x1 x2 x3 x4 x5 x6 x7 x8 x9 x10 x11 x12).globals=x3:=rfl
theorem cv.cI {x0:List ByteArray} {x1:List cA} {x2:List cz} {x3:List cw} {x4:ByteArray} {x5:Int} {x6:List ByteArray} {x7:List ByteArray} {x8:List cJ} {x9:Bool} {x10:Int} {x11:Int} {x12:Int}:(cv.mk x0 x1 x2 x3 x4 x5 x6 x7 x8 x9 x10 x11 x12).made=x12:=rfl
def ef (k:Int):Int :=
 if k=4\/k=15 then 2 else if k=5 then 3 else if k=6 then 4 else if k=7\/k=16 then 5 else if k=11 then 6 else if k=12 then 7 else if k=13\/k=19 then 1 else if k=17 then 8 else if k=20 then 9 else 0
def tz (s:cv) (v:cV):Bool :=
 match s.objects[v.n.toNat]? with
 | some o=>decide (o.kind=ef v.k)&&(if v.k=13\/v.k=16 then decide (v.i<(o.items.length:Int)) else true)
 | none=>false
def inB (s:cv) (v:cV):Bool :=
 dS v&&(if ef v.k≠0 then tz s v
  else if v.k=8 then decide (v.n<(s.names.length:Int)) else if v.k=9 then decide (v.n<=54) else if v.k=10 then decide (v.n<(s.records.length:Int)) else if v.k=14 then decide (v.i<(s.globals.length:Int)) else true)
def iX (s:cv) (v:cV):Bool:=decide (v.k<=12)&&inB s v
def allB (s:cv) (l:List cw):Bool:=l.all fun x=>iX s x.v
def oc (l:List cw):Bool:=(List.range l.length).all fun i=>!((l.take i).any fun y=>y.v.tL (l.getD i (.mk 0 0 0 ByteArray.empty 0 0)).v)
def cW (op:Int):List Int :=
 if op=1 then [2] else if 2<=op/\op<=6 then [1] else if 7<=op/\op<=10 then [3] else if op=13 then [12] else if op=18\/op=20 then [13] else if op=14\/op=15 then [12,12] else if op=16\/op=17 then [12,13] else []
def eb (s:cv) (kd:Int) (v:cV):Bool:=inB s v&&(if kd=13 then decide (v.k=13\/v.k=14) else decide (v.k=kd))
def all2 {α β:Type} (f:α->β->Bool):List α->List β->Bool
 | a :: r,b :: q=>f a b&&all2 f r q
 | _,_=>true
def eV (s:cv) (op:Int) (items:List cw):Bool:=decide (1<=op/\op<=23)&&decide ((cW op).length=items.length)&&all2 (fun k x=>eb s k x.v) (cW op) items
def pQ (l:List cw) (i:Nat):cV:=(l.getD i (.mk 0 0 0 ByteArray.empty 0 0)).v
def dx (s:cv) (o:cz):Bool :=
  (if 2<=o.kind/\o.kind<=7 then decide (1<=o.gK/\o.gK<=s.made) else decide (o.gK=0)) &&
  (if o.kind=1 then decide (o.tag=0)&&decide (o.keys.length=0)&&decide (o.items.length<=24)&&allB s o.items
   else if o.kind=2 then decide (o.tag=0)&&decide (o.keys.length=0)&&decide (o.items.length<=40)&&allB s o.items
   else if o.kind=3 then decide (o.tag=0)&&decide (o.keys.length<=40)&&decide (o.items.length=o.keys.length+1)&&allB s o.items&&allB s o.keys&&oc o.keys
   else if o.kind=4 then decide (o.tag=0)&&decide (o.keys.length<=40)&&decide (o.items.length=0)&&allB s o.keys&&oc o.keys
   else if o.kind=5 then decide (0<=o.tag)&&decide (o.tag<(s.records.length:Int))&&decide (o.keys.length=0)&&decide (o.items.length=(s.records.getD o.tag.toNat (.mk ByteArray.empty [] 0)).fields.length)&&allB s o.items
   else if o.kind=6 then decide (1<=o.tag)&&decide (o.keys.length=0)&&decide (o.items.length=3)&&decide ((pQ o.items 0).k=19)&&decide ((pQ o.items 1).k=19)&&decide ((pQ o.items 2).k=1)&&decide (0<=(pQ o.items 2).n)&&inB s (pQ o.items 0)&&inB s (pQ o.items 1)&&inB s (pQ o.items 2)
   else if o.kind=7 then decide (o.keys.length=0)&&eV s o.tag o.items
   else if o.kind=8 then decide (o.tag=0)&&decide (o.keys.length=0)&&decide (o.items.length=2)&&decide ((pQ o.items 0).k=5)&&inB s (pQ o.items 0)&&iX s (pQ o.items 1)
   else if o.kind=9 then decide (o.tag=0)&&decide (o.keys.length=0)&&decide (o.items.length=2)&&decide ((pQ o.items 0).k=2)&&decide ((pQ o.items 1).k=1)&&inB s (pQ o.items 0)&&inB s (pQ o.items 1)&&decide (1<=(pQ o.items 1).n/\(pQ o.items 1).n<=((pQ o.items 0).t.size:Int)+1)
   else false)
def mY (r:cA):Bool:=nameB r.name&&r.fields.all nameB&&decide (r.fields.length<=6) && !pR r.fields&&decide (0<=r.line)
def zz (s:cv) (a:cJ):Bool:=decide (0<=a.routine/\a.routine<(s.names.length:Int))&&decide (0<=a.frame/\a.frame<(s.objects.length:Int))&&(match s.objects[a.frame.toNat]? with | some o=>decide (o.kind=1) | none=>false)
def Hv (l:List Int):Bool:=(List.range l.length).all fun i=>decide (l.getD i 0=0) || !((l.take i).any fun y=>decide (y=l.getD i 0))
def headB (s:cv):Bool :=
 decide (s.names.length<=12)&&decide (s.records.length<=8)&&decide (s.globals.length<=12)&&decide (s.subject.size<=120)&&decide (1<=s.position/\s.position<=(s.subject.size:Int)+1)&&decide (s.rY.length<=40)&&decide (0<=s.made)&&decide (0<=s.budget/\s.budget<=4000)&&decide (0<=s.XN/\s.XN<=s.budget)&&s.names.all nameB
def gJ (s:cv):Bool :=
 headB s&&s.records.all mY&&s.output.all (fun x=>decide (x.size<=120))&&s.rY.all (zz s)&&s.objects.all (dx s)&&Hv (s.objects.map cz.gK)&&allB s s.globals
abbrev ll (f:FuncId) (s:cv) (ob:cz):Prop:=∀(S S':Nat->Prop) (q:Nat) (w:World) (vs:List Value),cG w S q s->Dat.cC w S' ob.D vs ->
 Calls Tryz.prog f #[.pointer (some ⟨q,0,none⟩),.agg vs.toArray] w fun e w'=>e=.returned (.bool (dx s ob))/\cE w w'
theorem cZ (a:cw) (r:List cw):pQ (a :: r) 0=a.v:=rfl
theorem da (a b:cw) (r:List cw):pQ (a :: b :: r) 1=b.v:=rfl
theorem dp (a b c:cw) (r:List cw):pQ (a :: b :: c :: r) 2=c.v:=rfl
theorem kA (s:cv) (tag cR:Int) (its keys:List cw):dx s (.mk 1 tag cR its keys)=(decide (cR=0)&&(decide (tag=0)&&decide (keys.length=0)&&decide (its.length<=24)&&allB s its)):=by
 first | rfl | kernel_rfl
theorem jT (s:cv) (tag cR:Int) (its keys:List cw):dx s (.mk 2 tag cR its keys)=(decide (1<=cR/\cR<=s.made)&&(decide (tag=0)&&decide (keys.length=0)&&decide (its.length<=40)&&allB s its)):=by
 first | rfl | kernel_rfl
theorem gU (s:cv) (tag cR:Int) (its keys:List cw):dx s (.mk 3 tag cR its keys)=(decide (1<=cR/\cR<=s.made)&&(decide (tag=0)&&decide (keys.length<=40)&&decide (its.length=keys.length+1)&&allB s its&&allB s keys&&oc keys)):=by
 first | rfl | kernel_rfl
theorem jl (s:cv) (tag cR:Int) (its keys:List cw):dx s (.mk 4 tag cR its keys)=(decide (1<=cR/\cR<=s.made)&&(decide (tag=0)&&decide (keys.length<=40)&&decide (its.length=0)&&allB s keys&&oc keys)):=by
 first | rfl | kernel_rfl
theorem ox (s:cv) (tag cR:Int) (its keys:List cw):dx s (.mk 5 tag cR its keys)=(decide (1<=cR/\cR<=s.made)&&(decide (0<=tag)&&decide (tag<(s.records.length:Int))&&decide (keys.length=0)&&decide (its.length=(s.records.getD tag.toNat (.mk ByteArray.empty [] 0)).fields.length)&&allB s its)):=by
 first | rfl | kernel_rfl
theorem fv (s:cv) (tag cR:Int) (its keys:List cw):dx s (.mk 6 tag cR its keys)=(decide (1<=cR/\cR<=s.made)&&(decide (1<=tag)&&decide (keys.length=0)&&decide (its.length=3)&&decide ((pQ its 0).k=19)&&decide ((pQ its 1).k=19)&&decide ((pQ its 2).k=1)&&decide (0<=(pQ its 2).n)&&inB s (pQ its 0)&&inB s (pQ its 1)&&inB s (pQ its 2))):=by
 first | rfl | kernel_rfl
theorem qw (s:cv) (tag cR:Int) (its keys:List cw):dx s (.mk 7 tag cR its keys)=(decide (1<=cR/\cR<=s.made)&&(decide (keys.length=0)&&eV s tag its)):=by
 first | rfl | kernel_rfl
theorem je (s:cv) (tag cR:Int) (its keys:List cw):dx s (.mk 8 tag cR its keys)=(decide (cR=0)&&(decide (tag=0)&&decide (keys.length=0)&&decide (its.length=2)&&decide ((pQ its 0).k=5)&&inB s (pQ its 0)&&iX s (pQ its 1))):=by
 first | rfl | kernel_rfl
theorem gZ (s:cv) (tag cR:Int) (its keys:List cw):dx s (.mk 9 tag cR its keys)=(decide (cR=0)&&(decide (tag=0)&&decide (keys.length=0)&&decide (its.length=2)&&decide ((pQ its 0).k=2)&&decide ((pQ its 1).k=1)&&inB s (pQ its 0)&&inB s (pQ its 1)&&decide (1<=(pQ its 1).n/\(pQ its 1).n<=((pQ its 0).t.size:Int)+1))):=by
 first | rfl | kernel_rfl
theorem Fh (s:cv) (kd tag cR:Int) (its keys:List cw) (h:kd<1\/9<kd):dx s (.mk kd tag cR its keys)=false:=by
 unfold dx;simp only[cz.kind,cz.tag,cz.gK,cz.items,cz.keys]
 have h1:¬kd=1:=aB
 have h2:¬kd=2:=aB
 have h3:¬kd=3:=aB
 have h4:¬kd=4:=aB
 have h5:¬kd=5:=aB
 have h6:¬kd=6:=aB
 have h7:¬kd=7:=aB
 have h8:¬kd=8:=aB
 have h9:¬kd=9:=aB
 simp only[h1,h2,h3,h4,h5,h6,h7,h8,h9,if_false,Bool.and_false]
theorem oH (s:cv) (tag cR:Int) (its keys:List cw) (fs:List ByteArray) (h:(s.records.getD tag.toNat (.mk ByteArray.empty [] 0)).fields=fs):dx s (.mk 5 tag cR its keys)=(decide (1<=cR/\cR<=s.made)&&(decide (0<=tag)&&decide (tag<(s.records.length:Int))&&decide (keys.length=0)&&decide (its.length=fs.length)&&allB s its)):=by
 subst h;exact ox s tag cR its keys
theorem xE (s:cv) (a b:cw):allB s [a,b]=(iX s a.v&&iX s b.v):=by simp[allB]
theorem Tg {s:cv} {a b:cw} (h:allB s [a,b]=true):iX s b.v=true:=by rw[xE,Bool.and_eq_true]at h;exact h.2
theorem Fv {s:cv} {a b:cw} (h:allB s [a,b]=true):inB s b.v=true:=by rw[xE,Bool.and_eq_true]at h;have:=h.2;unfold iX at this;rw[Bool.and_eq_true]at this;exact this.2
theorem xz {s:cv} {a b:cw} (h:allB s [a,b]=true):inB s a.v=true:=by rw[xE,Bool.and_eq_true]at h;have:=h.1;unfold iX at this;rw[Bool.and_eq_true]at this;exact this.2
theorem DX {s:cv} {v:cV} (h:v.k<=12):iX s v=inB s v:=by unfold iX;rw[ar h];rfl
theorem Lh (s:cv) (tag cR:Int) (a b:cw) (keys:List cw) (ha:a.v.k=5) (h:allB s [a,b]=false):dx s (.mk 8 tag cR [a,b] keys)=false:=by
 rw[xE,DX (v:=a.v) aB]at h
 rw[je]
 simp only[cZ,da]
 cases h1:inB s a.v
 ·
  simp
 ·
  rw[h1]at h
  have h2:iX s b.v=false:=bM
  rw[h2]
  simp
theorem K9 (s:cv) (tag cR:Int) (a b:cw) (keys:List cw) (ha:a.v.k=2) (hb:b.v.k=1) (h:allB s [a,b]=false):dx s (.mk 9 tag cR [a,b] keys)=false:=by
 rw[xE,DX (v:=a.v) aB,DX (v:=b.v) aB]at h
 rw[gZ]
 simp only[cZ,da]
 cases h1:inB s a.v
 ·
  simp
 ·
  rw[h1]at h
  have h2:inB s b.v=false:=bM
  rw[h2]
  simp
theorem gF {s:cv} (h:headB s=false):gJ s=false:=by unfold gJ;rw[h];rfl
theorem Qp {s:cv} (h:¬(s.records.all mY&&decide (s.records.length<=8))=true):gJ s=false:=by
 by_cases h8:s.records.length<=8
 ·
  rw[ar h8,Bool.and_true]at h
  unfold gJ
  rw[Bool.eq_false_iff.2 h]
  simp
 ·
  exact gF (by unfold headB;rw[aq h8];simp)
theorem Tt {s:cv} (m:Nat) (hm:m<s.records.length) (h:mY s.records[m]=false):gJ s=false:=by
 unfold gJ;rw[show s.records.all mY=false from List.all_eq_false.2 ⟨_,List.getElem_mem hm,by rw[h];simp⟩];simp
theorem Jv {s:cv} (m:Nat) (hm:m<s.output.length) (h:120<s.output[m].size):gJ s=false:=by
 unfold gJ;rw[show s.output.all (fun x=>decide (x.size<=120))=false from List.all_eq_false.2 ⟨_,List.getElem_mem hm,by simp;omega⟩];simp
theorem tR {s:cv} (m:Nat) (hm:m<s.rY.length) (h:zz s s.rY[m]=false):gJ s=false:=by
 unfold gJ;rw[show s.rY.all (zz s)=false from List.all_eq_false.2 ⟨_,List.getElem_mem hm,by rw[h];simp⟩];simp
theorem DI {s:cv} (m:Nat) (hm:m<s.objects.length) (h:dx s s.objects[m]=false):gJ s=false:=by
 unfold gJ;rw[show s.objects.all (dx s)=false from List.all_eq_false.2 ⟨_,List.getElem_mem hm,by rw[h];simp⟩];simp
theorem Qj {l:List Int} (i k:Nat) (hi:i<l.length) (hk:k<i) (h0:l[i]≠0) (h:l[k]' aB=l[i]):Hv l=false:=by
 unfold Hv
 refine List.all_eq_false.2 ⟨i,List.mem_range.2 hi,?_⟩
 rw[show l.getD i 0=l[i] by simp[List.getD,hi]]
 have:((l.take i).any fun y=>decide (y=l[i]))=true:=List.any_eq_true.2 ⟨l[k]' aB,List.mem_iff_getElem.2 ⟨k,by simp;omega,by simp⟩,by simp[h]⟩
 rw[this,aq h0]
 simp
theorem Ql {l:List Int} (h:∀i (hi:i<l.length) k (hk:k<i),l[i]=0\/l[k]' aB≠l[i]):Hv l=true:=by
 unfold Hv
 refine List.all_eq_true.2 fun i hi=>?_
 have hi':=List.mem_range.1 hi
 rw[show l.getD i 0=l[i] by simp[List.getD,hi']]
 by_cases h0:l[i]=0
 ·
  rw[ar h0];rfl
 ·
  have:((l.take i).any fun y=>decide (y=l[i]))=false:=List.any_eq_false.2 fun y hy=>by
   obtain⟨k,hk,rfl⟩:=List.mem_iff_getElem.1 hy
   rw[List.getElem_take]
   rcases h i hi' k (by simp at hk;omega)with h1 | h1
   ·
    exact absurd h1 h0
   ·
    simpa using h1
  rw[this]
  simp
theorem Jw {s:cv} (h:Hv (s.objects.map cz.gK)=false):gJ s=false:=by unfold gJ;rw[h];simp
theorem Jx {s:cv} (h:allB s s.globals=false):gJ s=false:=by unfold gJ;rw[h];simp
theorem xB {α:Type} {f:α->Bool} {l:List α} (h:∀j (hj:j<l.length),f l[j]=true):l.all f=true:=List.all_eq_true.2 fun x hx=>by
 obtain⟨k,hk,rfl⟩:=List.mem_iff_getElem.1 hx
 exact h k hk
theorem Jy {s:cv} (h1:headB s=true) (h2:∀j (hj:j<s.records.length),mY s.records[j]=true) (h3:∀j (hj:j<s.output.length),s.output[j].size<=120) (h4:∀j (hj:j<s.rY.length),zz s s.rY[j]=true)
  (h5:∀j (hj:j<s.objects.length),dx s s.objects[j]=true) (h6:Hv (s.objects.map cz.gK)=true) (h7:allB s s.globals=true):gJ s=true:=by
 unfold gJ
 rw[h1,xB h2,xB (f:=fun x:ByteArray=>decide (x.size<=120)) (fun j hj=>by simpa using h3 j hj),xB h4,xB h5,h6,h7]
 rfl
abbrev ahC (f:FuncId) (s:cv):Prop:=∀(S:Nat->Prop) (w:World) (vs:List Value),Dat.cC w S s.D vs->Calls Tryz.prog f #[.agg vs.toArray] w fun e w'=>e=.returned (.bool (gJ s))/\cE w w'
theorem gX {x0:List ByteArray} {x1:List cA} {x2:List cz} {x3:List cw} {x4:ByteArray} {x5:Int} {x6:List ByteArray} {x7:List ByteArray} {x8:List cJ} {x9:Bool} {x10:Int} {x11:Int} {x12:Int}:headB (cv.mk x0 x1 x2 x3 x4 x5 x6 x7 x8 x9 x10 x11 x12)=(decide (x0.length<=12)&&decide (x1.length<=8)&&decide (x3.length<=12)&&decide (x4.size<=120)&&decide (1<=x5/\x5<=(x4.size:Int)+1)&&decide (x8.length<=40)&&decide (0<=x12)&&decide (0<=x11/\x11<=4000)&&decide (0<=x10/\x10<=x11)&&x0.all nameB):=rfl
def qR:cv:=.mk [] [] [] [] ByteArray.empty 0 [] [] [] false 0 0 0
def ph:cz:=.mk 0 0 0 [] []
def Se (w : World) : Prop := Lib.TabIs Tryz.prog w "internal/strconv.uint64pow10" .u64 Lib.pow10Tab
theorem Se.on {w w':World} (h:Se w) (hb:cE w w'):Se w':=Joins.tab_stays (g:=2) aC h hb (Nat.le_refl _)
def Tabs (w:World):Prop:=Sp w/\Se w
theorem Tu {W : World} (h : laidMetH Tryz.prog [("math/bits.deBruijn32tab", Rows.laid_math_bits_deBruijn32tab), ("math/bits.deBruijn64tab", Rows.laid_math_bits_deBruijn64tab), ("internal/strconv.uint64pow10", Rows.laid_internal_strconv_uint64pow10), ("unicode.White_Space", Rows.laid_unicode_White_Space), ("strings.asciiSpace", Rows.laid_strings_asciiSpace)] W) : Tabs W := by
 have h : laidMet Tryz.prog [("math/bits.deBruijn32tab", Rows.laid_math_bits_deBruijn32tab), ("math/bits.deBruijn64tab", Rows.laid_math_bits_deBruijn64tab), ("internal/strconv.uint64pow10", Rows.laid_internal_strconv_uint64pow10), ("unicode.White_Space", Rows.laid_unicode_White_Space), ("strings.asciiSpace", Rows.laid_strings_asciiSpace)] W := h
 refine⟨?_,?_⟩
 ·
  exact Lib.tabIs_of_head (g:=0) (t:=175) (e:=5) (n:=256) (rest:=[]) aC aC Tryz.underlying175 Tryz.underlying5 aC aC h.tail.tail.tail.tail
 ·
  exact Lib.tabIs_of_head (g := 2) (t := 190) (e := 172) (n := 20) (rest := [("unicode.White_Space", Rows.laid_unicode_White_Space), ("strings.asciiSpace", Rows.laid_strings_asciiSpace)]) aC aC Tryz.underlying190 Tryz.underlying172 aC aC h.tail.tail
theorem Tabs.on {w w':World} (h:Tabs w) (hb:cE w w'):Tabs w':=⟨h.1.on hb,h.2.on hb⟩
end Go.Proofs.YtjngkknbpfgdcaaGreatDoor
