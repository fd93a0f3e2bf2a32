/-
 DERIVED: THE SHELF's CONTRACTS AT THIS DUMP,IN PLAIN WORDS (tools/lay-plain.mjs out of 'TrydShelf.lean',which tools/lay-shelf.mjs wrote): THE SAME DECLARATIONS UNDER THE SAME NAMES: 'import','namespace','open','def','theorem' AND NOTHING ELSE: no command of the shelf's: FOR A HAND-IN. Each laying: the table of numbers ('.._ren') and one theorem,a field a fact of the dump's own or the kernel's comparison;each contract: ONE APPLICATION.
-/
import Derived.Shelf.Strings.Fields
import Derived.Shelf.LaysM
import Derived.Shelf.Strings.SplitShaped
import Derived.Shelf.Unicode.Latin
import Derived.Shelf.Unicode.Is16White
import Derived.Shelf.Unicode.IsSpaceAny
import Derived.Shelf.Unicode.Is16WhiteD
import Derived.Shelf.Unicode.IsSpaceAnyD
import Derived.Shelf.Strings.FieldsAny
import Derived.Shelf.Strings.FieldsFuncAny
import Derived.Shelf.Unicode.Is16Any
import Derived.Shelf.Unicode.Is32Any
import Derived.Shelf.Unicode.ExclAny
import Derived.Shelf.Strings.FieldsFuncGrows
import Derived.Shelf.Slices.Turned
import Derived.Test.YtoikhhnmbbbjjaaDoorProg
import Derived.Test.YtoikhhnmbbbjjaaDoorPB
import Derived.Lib.LaidTab
import Derived.Lib.SmallJoins
import Derived.Stop.LaidErr
import Derived.Test.YtoikhhnmbbbjjaaDoorPTV
import Derived.Test.YtoikhhnmbbbjjaaDoorPA7
import Derived.Test.YtoikhhnmbbbjjaaDoorRows
namespace Go.Proofs
open Go.Shelf
open Go.RowKit Go.Lib in
def Tryd.laysM157_ren:Go.Shelf.Ren:=⟨fun | 157=>84 | 229=>85 | 199=>86 | 261=>87 | 311=>88 | 312=>89 | n=>n,fun | 9=>9 | 31=>24 | 3=>3 | 5=>5 | 4=>4 | 119=>109 | 0=>0 | 40=>111 | 152=>112 | 21=>21 | 154=>114 | 51=>115 | 141=>117 | 196=>121 | 193=>118 | 198=>124 | 49=>122 | 194=>119 | 201=>127 | 226=>129 | 46=>106 | 227=>130 | n=>n,fun | 0=>0 | 6=>1 | n=>n⟩
theorem Tryd.laysM157:Go.Proofs.LaysM.n157 Tryd.prog Tryd.laysM157_ren:={
 mixed:=by kernel_rfl
 f157:=Tryd.func84.trans (congrArg some (by kernel_rfl))
 f199:=Tryd.func86.trans (congrArg some (by kernel_rfl))
 f229:=Tryd.func85.trans (congrArg some (by kernel_rfl))
 f261:=Tryd.func87.trans (congrArg some (by kernel_rfl))
 f311:=Tryd.func88.trans (congrArg some (by kernel_rfl))
 f312:=Tryd.func89.trans (congrArg some (by kernel_rfl))
 t0:=Tryd.underlying0
 a0:=Tryd.isAgg0
 z0:=Tryd.sizeOf0
 v0:=Tryd.zeroValue0
 t3:=Tryd.underlying3
 a3:=Tryd.isAgg3
 z3:=Tryd.sizeOf3
 v3:=Tryd.zeroValue3
 t4:=Tryd.underlying4
 a4:=Tryd.isAgg4
 z4:=Tryd.sizeOf4
 v4:=Tryd.zeroValue4
 t5:=Tryd.underlying5
 a5:=Tryd.isAgg5
 z5:=Tryd.sizeOf5
 v5:=Tryd.zeroValue5
 t9:=Tryd.underlying9
 a9:=Tryd.isAgg9
 z9:=Tryd.sizeOf9
 v9:=Tryd.zeroValue9
 t21:=Tryd.underlying21
 a21:=Tryd.isAgg21
 z21:=Tryd.sizeOf21
 v21:=Tryd.zeroValue21
 t31:=Tryd.underlying24
 a31:=Tryd.isAgg24
 z31:=Tryd.sizeOf24
 v31:=Tryd.zeroValue24
 t40:=Tryd.underlying111
 a40:=Tryd.isAgg111
 z40:=Tryd.sizeOf111
 v40:=Tryd.zeroValue111
 t46:=Tryd.underlying106
 a46:=Tryd.isAgg106
 z46:=Tryd.sizeOf106
 v46:=Tryd.zeroValue106
 t49:=Tryd.underlying122
 a49:=Tryd.isAgg122
 z49:=Tryd.sizeOf122
 v49:=Tryd.zeroValue122
 t51:=Tryd.underlying115
 a51:=Tryd.isAgg115
 z51:=Tryd.sizeOf115
 v51:=Tryd.zeroValue115
 t119:=Tryd.underlying109
 a119:=Tryd.isAgg109
 z119:=Tryd.sizeOf109
 t141:=Tryd.underlying117
 a141:=Tryd.isAgg117
 z141:=Tryd.sizeOf117
 v141:=Tryd.zeroValue117
 t152:=Tryd.underlying112
 a152:=Tryd.isAgg112
 z152:=Tryd.sizeOf112
 v152:=Tryd.zeroValue112
 t154:=Tryd.underlying114
 a154:=Tryd.isAgg114
 z154:=Tryd.sizeOf114
 v154:=Tryd.zeroValue114
 t193:=Tryd.underlying118
 a193:=Tryd.isAgg118
 z193:=Tryd.sizeOf118
 v193:=Tryd.zeroValue118
 t194:=Tryd.underlying119
 a194:=Tryd.isAgg119
 z194:=Tryd.sizeOf119
 v194:=Tryd.zeroValue119
 t196:=Tryd.underlying121
 a196:=Tryd.isAgg121
 z196:=Tryd.sizeOf121
 v196:=Tryd.zeroValue121
 t198:=Tryd.underlying124
 a198:=Tryd.isAgg124
 z198:=Tryd.sizeOf124
 v198:=Tryd.zeroValue124
 t201:=Tryd.underlying127
 a201:=Tryd.isAgg127
 z201:=Tryd.sizeOf127
 v201:=Tryd.zeroValue127
 t226:=Tryd.underlying129
 a226:=Tryd.isAgg129
 z226:=Tryd.sizeOf129
 v226:=Tryd.zeroValue129
 t227:=Tryd.underlying130
 a227:=Tryd.isAgg130
 z227:=Tryd.sizeOf130
 v227:=Tryd.zeroValue130
 g0:=by kernel_rfl
 g6:=by kernel_rfl
 i0:=by kernel_rfl
 i3:=by kernel_rfl
 i4:=by kernel_rfl
 i5:=by kernel_rfl
 i9:=by kernel_rfl
 i21:=by kernel_rfl
 i31:=by kernel_rfl
 i40:=by kernel_rfl
 i46:=by kernel_rfl
 i49:=by kernel_rfl
 i51:=by kernel_rfl
 i141:=by kernel_rfl
 i152:=by kernel_rfl
 i154:=by kernel_rfl
 i193:=by kernel_rfl
 i194:=by kernel_rfl
 i196:=by kernel_rfl
 i198:=by kernel_rfl
 i201:=by kernel_rfl
 i226:=by kernel_rfl
 i227:=by kernel_rfl
 m0:=by kernel_rfl
 m6:=by kernel_rfl }
open Go.RowKit Go.Lib in
theorem Tryd.strings_Fields_laid (s : ByteArray) (w : World) (hs : s.size < 4294967281) (hascii : ∀ (j : Nat) b, s.data.toList[j]? = some b → b.toNat < 128) (htab : Lib.TabIs Tryd.prog w "strings.asciiSpace" .u8 Lib.asciiSpaceTab) :
  Calls Tryd.prog 84 #[.string s] w fun e w' =>
   e=.returned (.slice (some ⟨w.heap.size,0,none⟩) (Lib.fields s.data.toList).length (Lib.fields s.data.toList).length)∧w'=w.alloc (.cells ((Lib.fields s.data.toList).map fun l=>Value.string ⟨l.toArray⟩).toArray 9):=Any.strings_Fields_laid Tryd.laysM157 s w hs hascii htab
open Go.RowKit Go.Lib in
open Go.RowKit Go.Lib in
open Go.RowKit Go.Lib in
open Go.RowKit Go.Lib in
open Go.RowKit Go.Lib in
open Go.RowKit Go.Lib in
open Go.RowKit Go.Lib in
open Go.RowKit Go.Lib in
open Go.RowKit Go.Lib in
open Go.RowKit Go.Lib in
open Go.RowKit Go.Lib in
open Go.RowKit Go.Lib in
open Go.RowKit Go.Lib in
open Go.RowKit Go.Lib in
open Go.RowKit Go.Lib in
open Go.Lib in
open Go.Lib in
def Tryd.lays110_ren:Go.Shelf.Ren:=⟨fun | 110=>70 | 109=>81 | n=>n,fun | 31=>24 | 9=>9 | 4=>4 | 3=>3 | 0=>0 | n=>n,fun | n=>n⟩
theorem Tryd.lays110:Go.Proofs.Lays.n110 Tryd.prog Tryd.lays110_ren:={
 mixed:=by kernel_rfl
 f109:=Tryd.func81.trans (congrArg some (by kernel_rfl))
 f110:=Tryd.func70.trans (congrArg some (by kernel_rfl))
 t0:=Tryd.underlying0
 a0:=Tryd.isAgg0
 z0:=Tryd.sizeOf0
 v0:=Tryd.zeroValue0
 t3:=Tryd.underlying3
 a3:=Tryd.isAgg3
 z3:=Tryd.sizeOf3
 v3:=Tryd.zeroValue3
 t4:=Tryd.underlying4
 a4:=Tryd.isAgg4
 z4:=Tryd.sizeOf4
 v4:=Tryd.zeroValue4
 t9:=Tryd.underlying9
 a9:=Tryd.isAgg9
 z9:=Tryd.sizeOf9
 v9:=Tryd.zeroValue9
 t31:=Tryd.underlying24
 a31:=Tryd.isAgg24
 z31:=Tryd.sizeOf24
 v31:=Tryd.zeroValue24 }
open Go.Lib in
theorem Tryd.slices_Contains_string (b off n c:Nat) (zs:List ByteArray) (x:ByteArray) (w:World) (hz:n≤zs.length) (hbig:n≤9223372036854775807) (hc:∀j,j<zs.length→w.cell? ⟨b,off+j,none⟩=some (.string (zs.getD j ByteArray.empty))) :
  Calls Tryd.prog 70 #[.slice (some ⟨b,off,none⟩) n c,.string x] w fun e w'=>e=.returned (.bool (Lib.containsS (zs.take n) x))∧w'=w:=Any.slices_Contains_string Tryd.lays110 b off n c zs x w hz hbig hc
open Go.Lib in
theorem Tryd.slices_Contains_string_empty (a:Option Addr) (c:Nat) (x:ByteArray) (w:World) :
  Calls Tryd.prog 70 #[.slice a 0 c,.string x] w fun e w'=>e=.returned (.bool false)∧w'=w:=Any.slices_Contains_string_empty Tryd.lays110 a c x w
end Go.Proofs
namespace Go.Proofs.YtoikhhnmbbbjjaaDoor
set_option linter.unusedVariables false
set_option linter.unusedSimpArgs false
set_option maxRecDepth 100000
open Go.RowKit
def Sp (w : World) : Prop := Lib.TabIs Tryd.prog w "strings.asciiSpace" .u8 Lib.asciiSpaceTab
def Strs (l:List ByteArray) (w w':World) (e:Ending):Prop :=
 e=.returned (.slice (some ⟨w.heap.size,0,none⟩) l.length l.length)∧w'=w.alloc (.cells (l.map Value.string).toArray 9)
theorem strs_cell (l:List ByteArray) (w:World) (i:Nat) (h:i<l.length) :
  (w.alloc (.cells (l.map Value.string).toArray 9)).cell? ⟨w.heap.size,i,none⟩=some (.string (l.getD i ByteArray.empty)):=by
 rw[World.cell?_alloc_mark]
 simp[h,List.getD]
theorem fields_at (l:List ByteArray) (d:ByteArray) (w:World) (ht:Sp w) (hs:d.size<4294967281) (ha:(d.data.toList.all fun b=>decide (b.toNat<128))=true)
  (hl:Lib.fields d.data.toList=l.map fun s=>s.data.toList) :
  Calls Tryd.prog 84 #[.string d] w fun e w'=>Strs l w w' e:=by
 refine (Tryd.strings_Fields_laid d w hs (fun j b hb=>by
  have:=List.all_eq_true.1 ha b (List.mem_of_getElem? hb)
  simpa using this) ht).mono ?_
 rintro e w' ⟨rfl,rfl⟩
 have e1:((Lib.fields d.data.toList).map fun l=>Value.string ⟨l.toArray⟩)=l.map Value.string:=by
  rw[hl,List.map_map];rfl
 have e2:(Lib.fields d.data.toList).length=l.length:=by rw[hl,List.length_map]
 rw[e1,e2]
 exact⟨rfl,rfl⟩
end Go.Proofs.YtoikhhnmbbbjjaaDoor
namespace Go.Proofs.YtoikhhnmbbbjjaaDoor
set_option linter.unusedVariables false
set_option linter.unusedSimpArgs false
set_option maxRecDepth 100000
open Go.RowKit
theorem Sp.on {w w':World} (h:Sp w) (hb:Bel w w'):Sp w':=Joins.tab_stays (g:=0) (by kernel_rfl) h hb (Nat.le_refl _)
theorem Strs.bel {l:List ByteArray} {w w':World} {e:Ending} (h:Strs l w w' e):Bel w w':=by
 rw[h.2];exact Bel.alloc (Bel.refl w) _
end Go.Proofs.YtoikhhnmbbbjjaaDoor
namespace Go.Proofs.YtoikhhnmbbbjjaaDoor
set_option linter.unusedVariables false
set_option linter.unusedSimpArgs false
set_option maxRecDepth 100000
open Go.RowKit
theorem ret_bl {a b:Bool} (h:a=b):Ending.returned (.bool a)=.returned (.bool b):=by rw[h]
def resL:List ByteArray:=[⟨#[112,114,111,99,101,100,117,114,101]⟩,⟨#[101,110,100]⟩,⟨#[103,108,111,98,97,108]⟩,⟨#[108,111,99,97,108]⟩,⟨#[114,101,99,111,114,100]⟩,⟨#[105,102]⟩,⟨#[116,104,101,110]⟩,⟨#[101,108,115,101]⟩,⟨#[119,104,105,108,101]⟩,⟨#[117,110,116,105,108]⟩,⟨#[101,118,101,114,121]⟩,⟨#[100,111]⟩,⟨#[114,101,112,101,97,116]⟩,⟨#[99,97,115,101]⟩,⟨#[111,102]⟩,⟨#[100,101,102,97,117,108,116]⟩,⟨#[114,101,116,117,114,110]⟩,⟨#[115,117,115,112,101,110,100]⟩,⟨#[102,97,105,108]⟩,⟨#[98,114,101,97,107]⟩,⟨#[110,101,120,116]⟩,⟨#[99,114,101,97,116,101]⟩,⟨#[116,111]⟩,⟨#[98,121]⟩,⟨#[110,111,116]⟩,⟨#[100,101,102,101,114]⟩]
theorem resL_len:resL.length=26:=by decide +kernel
def resB (s:ByteArray):Bool:=Lib.containsS resL s
def letB (b:Int):Bool:=decide (97≤b∧b≤122)||decide (65≤b∧b≤90)||decide (b=95)
def digB (b:Int):Bool:=decide (48≤b∧b≤57)
theorem let_not_dig {b:Int} (h:letB b=true):digB b=false:=by
 unfold letB at h
 unfold digB
 simp only[Bool.or_eq_true,decide_eq_true_eq]at h
 exact decide_eq_false (by omega)
def ldB (s:ByteArray):Bool:=s.data.toList.all fun c=>letB c.toNat||digB c.toNat
def nameB (s:ByteArray):Bool:=decide (1≤s.size)&&decide (s.size≤12) && !digB (s.data.toList.getD 0 0).toNat && !resB s&&ldB s
set_option maxHeartbeats 400000 in
theorem l1Has_any (l:List ByteArray) (b c:Nat) (x:ByteArray) (w:World) (hl:l.length<1000000) (hc:∀j,j<l.length→w.cell? ⟨b,j,none⟩=some (.string (l.getD j ByteArray.empty))) :
  Calls Tryd.prog 79 #[.slice (some ⟨b,0,none⟩) l.length c,.string x] w fun e w'=>e=.returned (.bool (Lib.containsS l x))∧w'=w:=by
 go_enter Tryd.func79,Tryd.ntmps79
 go_wp2_with (fail)
 go_loopw [5] (fun v wr=>∃m:Nat,v=.int .i64 m∧m≤l.length∧Hid (∀j,j<m→l.getD j ByteArray.empty≠x)∧wr=w) (fun v _=>l.length - (intOf v).toNat)
 case atStart=>exact⟨0,rfl,by omega,fun j hj=>by omega,rfl⟩
 case round =>
  obtain⟨m,rfl,m1,hm,rfl⟩:=hrel
  by_cases h1:m<l.length
  ·
   have hd:decide ((m:Int)<(l.length:Int))=true:=by simp[h1]
   have hcm:=hc m h1
   rw[show l.getD m ByteArray.empty=l[m] by simp[List.getD,h1]]at hcm
   have hw:IntKind.i64.wrap ((m:Int)+1)=(m:Int)+1:=by rw[IntKind.wrap_i64];omega
   by_cases hx:l[m]=x
   ·
    have hR:Lib.containsS l x=true:=by
     rw[Lib.containsS_iff,←hx];exact List.getElem_mem h1
    go_wp2_with (fail)
    all_goals
     go_returns
     exact⟨by rw[hR];first | done | rfl,rfl⟩
   ·
    have hd2:(l[m].toList==x.toList)=false:=by rw[beq_eq_false_iff_ne];exact fun h=>hx ((ba_eq _ _).1 h)
    go_wp2_with (fail)
    exact⟨⟨m+1,rfl,h1,fun j hj=>by
     by_cases e:j=m
     ·
      subst e;simpa[List.getD,h1]using hx
     ·
      exact hm.out j (by omega),trivial⟩,by simp only[intOf];omega⟩
  ·
   have hd:decide ((m:Int)<(l.length:Int))=false:=by simp[h1]
   have hR:Lib.containsS l x=false:=by
    have:Lib.idxOfS l x = -1:=Lib.idxFromS_miss x l 0 fun j hj=>hm.out j (by omega)
    rw[Lib.containsS,this];rfl
   go_wp2_with (fail)
   all_goals
    go_returns
    exact⟨by rw[hR];first | done | rfl,rfl⟩
theorem specIsReserved_any (x:ByteArray) (w:World) :
  Calls Tryd.prog 62 #[.string x] w fun e w'=>e=.returned (.bool (resB x))∧Bel w w':=by
 have hF:=l1Has_any resL w.heap.size 26 x (w.alloc (.cells (resL.map Value.string).toArray 9)) (by rw[resL_len];omega) (fun j hj=>strs_cell resL w j hj)
 rw[resL_len]at hF
 go_enter Tryd.func62,Tryd.ntmps62
 go_wp2_with (go_at_call 79;refine hF.mono ?_;rintro e w1 ⟨rfl,rfl⟩)
 all_goals
  go_returns
  exact⟨rfl,bl⟩
theorem reservedWords_any (w:World) (ht:Sp w):Calls Tryd.prog 80 #[] w fun e w'=>Strs resL w w' e:=by
 go_enter Tryd.func80,Tryd.ntmps80
 go_wp2_with (go_at_call 84;refine (fields_at resL _ _ ht (by decide +kernel) (by decide +kernel) (by decide +kernel)).mono ?_;rintro e w1 ⟨rfl,rfl⟩)
 all_goals
  go_returns
  exact⟨rfl,rfl⟩
theorem implIsReserved_any (x:ByteArray) (w:World) (ht:Sp w) :
  Calls Tryd.prog 68 #[.string x] w fun e w'=>e=.returned (.bool (resB x))∧Bel w w':=by
 have hL:=resL_len
 have hF:=Tryd.slices_Contains_string w.heap.size 0 26 26 resL x (w.alloc (.cells (resL.map Value.string).toArray 9)) (by omega) (by omega) (fun j hj=>by simpa using strs_cell resL w j hj)
 rw[show resL.take 26=resL by rw[←hL];exact List.take_length]at hF
 go_enter Tryd.func68,Tryd.ntmps68
 go_wp2_with (first
  | (go_at_call 80;refine (reservedWords_any _ ht).mono ?_;rintro e w1 ⟨rfl,rfl⟩;rw[hL])
  | (go_at_call 70;refine hF.mono ?_;rintro e w1 ⟨rfl,rfl⟩))
 all_goals
  go_returns
  exact⟨rfl,bl⟩
theorem ldB_all {s:ByteArray} (h:∀k (hk:k<s.size),letB (s[k].toNat)=true∨digB (s[k].toNat)=true):ldB s=true:=by
 unfold ldB
 rw[List.all_eq_true]
 intro x hx
 obtain⟨k,hk,rfl⟩:=List.mem_iff_getElem.1 hx
 have:=h k (by simpa using hk)
 simpa[ByteArray.getElem_eq_getElem_data]using this
theorem ldB_no {s:ByteArray} (k:Nat) (hk:k<s.size) (h1:letB (s[k].toNat)=false) (h2:digB (s[k].toNat)=false):ldB s=false:=by
 unfold ldB
 rw[List.all_eq_false]
 exact⟨s[k],by
  rw[ByteArray.getElem_eq_getElem_data]
  exact List.mem_iff_getElem.2 ⟨k,by simpa using hk,by simp⟩,by simp[h1,h2]⟩
theorem head_get {s:ByteArray} (h:0<s.size):(s.data.toList.getD 0 0)=s[0]:=by
 rw[ByteArray.getElem_eq_getElem_data]
 simp[List.getD]
 rw[Array.getElem?_eq_getElem (show 0<s.data.size by simpa using h)]
 rfl
theorem specLetter_any (b:Int) (w:World) (h0:0≤b) (h1:b<256):Calls Tryd.prog 61 #[.int .u8 b] w fun e w'=>e=.returned (.bool (letB b))∧w=w':=by
 unfold letB
 go_enter Tryd.func61,Tryd.ntmps61
 go_wp2
 all_goals
  go_returns
  go_light
  refine⟨?_,rfl⟩
  simp only[Array.getD_eq_getD_getElem?,List.getElem?_toArray,List.getElem?_cons_succ,List.getElem?_cons_zero,Option.getD_some]
  first | done | (simp_all;done) | (simp_all;omega) | (rw[Ending.returned.injEq,Value.bool.injEq,Bool.eq_iff_iff];simp;omega) | (simp only[Ending.returned.injEq,Value.bool.injEq];rw[Bool.eq_iff_iff];simp;omega)
theorem specDigit_any (b:Int) (w:World) (h0:0≤b) (h1:b<256):Calls Tryd.prog 63 #[.int .u8 b] w fun e w'=>e=.returned (.bool (digB b))∧w=w':=by
 unfold digB
 go_enter Tryd.func63,Tryd.ntmps63
 go_wp2
 all_goals
  go_returns
  go_light
  refine⟨?_,rfl⟩
  simp only[Array.getD_eq_getD_getElem?,List.getElem?_toArray,List.getElem?_cons_succ,List.getElem?_cons_zero,Option.getD_some]
  first | done | (simp_all;done) | (simp_all;omega) | (rw[Ending.returned.injEq,Value.bool.injEq,Bool.eq_iff_iff];simp;omega) | (simp only[Ending.returned.injEq,Value.bool.injEq];rw[Bool.eq_iff_iff];simp;omega)
set_option maxHeartbeats 1000000 in
theorem specIsName_any (s:ByteArray) (w:World) :
  Calls Tryd.prog 38 #[.string s] w fun e w'=>e=.returned (.bool (nameB s))∧Bel w w':=by
 rcases Nat.lt_or_ge s.size 1 with h1 | h1
 ·
  have hR:nameB s=false:=by unfold nameB;rw[decide_eq_false (by omega)];rfl
  have hd:decide ((s.size:Int)<1)=true:=decide_eq_true (by omega)
  have hd':decide (s.size<1)=true:=decide_eq_true (by omega)
  rw[hR]
  go_enter Tryd.func38,Tryd.ntmps38
  go_wp2_with (fail)
  all_goals
   go_returns
   exact⟨rfl,bl⟩
 rcases Nat.lt_or_ge 12 s.size with h2 | h2
 ·
  have hR:nameB s=false:=by unfold nameB;rw[decide_eq_false (show ¬s.size≤12 by omega)];simp
  rw[hR]
  go_enter Tryd.func38,Tryd.ntmps38
  go_wp2_with (fail)
  all_goals
   go_returns
   exact⟨rfl,bl⟩
 have hc0:(s[0].toNat:Int)<256:=by have:=s[0].toNat_lt;omega
 have hH:=hide (head_get (s:=s) (by omega))
 have hR0:=hide (show nameB s=(!digB s[0].toNat && !resB s&&ldB s) by unfold nameB;rw[hH.out,decide_eq_true (show 1≤s.size by omega),decide_eq_true h2];simp)
 clear hH

 cases hg:letB s[0].toNat
 case false =>
  have hR1:nameB s=false:=by
   cases hdg:digB s[0].toNat
   ·
    rw[hR0.out,ldB_no 0 (by omega) hg hdg];simp
   ·
    rw[hR0.out,hdg];rfl
  rw[hR1]
  go_enter Tryd.func38,Tryd.ntmps38
  go_wp2_with (first | (go_at_call 61;(with_reducible refine (specLetter_any _ _ (by omega) (by omega)).mono ?_);rintro e w1 ⟨rfl,rfl⟩) | (go_at_call 62;refine (specIsReserved_any s _).mono ?_;rintro e w3 ⟨rfl,hb3⟩))
  all_goals
   go_returns
   exact⟨rfl,bl⟩
 have hnd:=let_not_dig hg

 cases hr:resB s
 case true =>
  have hR1:nameB s=false:=by rw[hR0.out,hr];simp
  rw[hR1]
  go_enter Tryd.func38,Tryd.ntmps38
  go_wp2_with (first | (go_at_call 61;(with_reducible refine (specLetter_any _ _ (by omega) (by omega)).mono ?_);rintro e w1 ⟨rfl,rfl⟩) | (go_at_call 63;(with_reducible refine (specDigit_any _ _ (by omega) (by omega)).mono ?_);rintro e w2 ⟨rfl,rfl⟩) | (go_at_call 62;refine (specIsReserved_any s _).mono ?_;rintro e w3 ⟨rfl,hb3⟩))
  all_goals
   go_returns
   exact⟨rfl,bl⟩
 have hR1:=hide (show nameB s=ldB s by rw[hR0.out,hr,hnd];simp)
 clear hR0
 go_enter Tryd.func38,Tryd.ntmps38
 go_wp2_with (first | (go_at_call 61;(with_reducible refine (specLetter_any _ _ (by omega) (by omega)).mono ?_);rintro e w1 ⟨rfl,rfl⟩) | (go_at_call 63;(with_reducible refine (specDigit_any _ _ (by omega) (by omega)).mono ?_);rintro e w2 ⟨rfl,rfl⟩) | (go_at_call 62;refine (specIsReserved_any s _).mono ?_;rintro e w3 ⟨rfl,hb3⟩))
 go_loopw [3] (fun v wr=>∃m:Nat,v=.int .i64 m∧m≤s.size∧Hid (∀j (hj:j<s.size),j<m→letB s[j].toNat=true∨digB s[j].toNat=true)∧Bel w wr) (fun v _=>s.size - (intOf v).toNat)
 case atStart=>exact⟨0,rfl,by omega,fun j _ hj=>by omega,bl⟩
 case round =>
  obtain⟨m,rfl,m1,hm,hbw⟩:=hrel
  by_cases h3:m<s.size
  ·
   have hd:decide ((m:Int)<(s.size:Int))=true:=by simp[h3]
   have hcm:(s[m].toNat:Int)<256:=by have:=s[m].toNat_lt;omega
   cases hl:letB s[m].toNat <;> cases hdg:digB s[m].toNat
   ·
    have hR2:=hide (hR1.out.trans (ldB_no m h3 hl hdg))
    go_wp2_with (first | (go_at_call 61;(with_reducible refine (specLetter_any _ _ (by omega) (by omega)).mono ?_);rintro e w1 ⟨rfl,rfl⟩) | (go_at_call 63;(with_reducible refine (specDigit_any _ _ (by omega) (by omega)).mono ?_);rintro e w2 ⟨rfl,rfl⟩) | (go_at_call 62;refine (specIsReserved_any s _).mono ?_;rintro e w3 ⟨rfl,hb3⟩))
    all_goals
     go_returns
     exact⟨by rw[hR2.out];first | done | rfl,bl⟩
   all_goals
    go_wp2_with (first | (go_at_call 61;(with_reducible refine (specLetter_any _ _ (by omega) (by omega)).mono ?_);rintro e w1 ⟨rfl,rfl⟩) | (go_at_call 63;(with_reducible refine (specDigit_any _ _ (by omega) (by omega)).mono ?_);rintro e w2 ⟨rfl,rfl⟩) | (go_at_call 62;refine (specIsReserved_any s _).mono ?_;rintro e w3 ⟨rfl,hb3⟩))
    go_roundw
    case rel=>exact⟨m+1,by go_num,by omega,fun j hj hjm=>by
     by_cases e:j=m
     ·
      subst e;first | exact Or.inl hl | exact Or.inr hdg
     ·
      exact hm.out j hj (by omega),bl⟩
    case measure=>simp[intOf];omega
  ·
   have hd:decide ((m:Int)<(s.size:Int))=false:=by simp[h3]
   have hR2:=hide (hR1.out.trans (ldB_all fun k hk=>hm.out k hk (by omega)))
   go_wp2_with (fail)
   all_goals
    go_returns
    exact⟨by rw[hR2.out];first | done | rfl,bl⟩
theorem implLetter_any (b:Int) (w:World) (h0:0≤b) (h1:b<256):Calls Tryd.prog 69 #[.int .u8 b] w fun e w'=>e=.returned (.bool (letB b))∧w=w':=by
 unfold letB
 go_enter Tryd.func69,Tryd.ntmps69
 go_wp2
 all_goals
  go_returns
  go_light
  refine⟨?_,rfl⟩
  simp only[Array.getD_eq_getD_getElem?,List.getElem?_toArray,List.getElem?_cons_succ,List.getElem?_cons_zero,Option.getD_some]
  first | done | (simp_all;done) | (simp_all;omega) | (rw[Ending.returned.injEq,Value.bool.injEq,Bool.eq_iff_iff];simp;omega) | (simp only[Ending.returned.injEq,Value.bool.injEq];rw[Bool.eq_iff_iff];simp;omega)
theorem implDigit_any (b:Int) (w:World) (h0:0≤b) (h1:b<256):Calls Tryd.prog 67 #[.int .u8 b] w fun e w'=>e=.returned (.bool (digB b))∧w=w':=by
 unfold digB
 go_enter Tryd.func67,Tryd.ntmps67
 go_wp2
 all_goals
  go_returns
  go_light
  refine⟨?_,rfl⟩
  simp only[Array.getD_eq_getD_getElem?,List.getElem?_toArray,List.getElem?_cons_succ,List.getElem?_cons_zero,Option.getD_some]
  first | done | (simp_all;done) | (simp_all;omega) | (rw[Ending.returned.injEq,Value.bool.injEq,Bool.eq_iff_iff];simp;omega) | (simp only[Ending.returned.injEq,Value.bool.injEq];rw[Bool.eq_iff_iff];simp;omega)
set_option maxHeartbeats 1000000 in
theorem implIsName_any (s:ByteArray) (w:World) (ht:Sp w) :
  Calls Tryd.prog 44 #[.string s] w fun e w'=>e=.returned (.bool (nameB s))∧Bel w w':=by
 have HT:=hide ht
 clear ht
 rcases Nat.lt_or_ge s.size 1 with h1 | h1
 ·
  have hR:nameB s=false:=by unfold nameB;rw[decide_eq_false (by omega)];rfl
  have hd:decide ((s.size:Int)<1)=true:=decide_eq_true (by omega)
  have hd':decide (s.size<1)=true:=decide_eq_true (by omega)
  rw[hR]
  go_enter Tryd.func44,Tryd.ntmps44
  go_wp2_with (fail)
  all_goals
   go_returns
   exact⟨rfl,bl⟩
 rcases Nat.lt_or_ge 12 s.size with h2 | h2
 ·
  have hR:nameB s=false:=by unfold nameB;rw[decide_eq_false (show ¬s.size≤12 by omega)];simp
  rw[hR]
  go_enter Tryd.func44,Tryd.ntmps44
  go_wp2_with (fail)
  all_goals
   go_returns
   exact⟨rfl,bl⟩
 have hc0:(s[0].toNat:Int)<256:=by have:=s[0].toNat_lt;omega
 have hH:=hide (head_get (s:=s) (by omega))
 have hR0:=hide (show nameB s=(!digB s[0].toNat && !resB s&&ldB s) by unfold nameB;rw[hH.out,decide_eq_true (show 1≤s.size by omega),decide_eq_true h2];simp)
 clear hH

 cases hg:digB s[0].toNat
 case true =>
  rw[hR0.out]
  go_enter Tryd.func44,Tryd.ntmps44
  go_wp2_with (first | (go_at_call 67;(with_reducible refine (implDigit_any _ _ (by omega) (by omega)).mono ?_);rintro e w2 ⟨rfl,rfl⟩) | (go_at_call 68;refine (implIsReserved_any s _ HT.out).mono ?_;rintro e w3 ⟨rfl,hb3⟩))
  all_goals
   go_returns
   exact⟨by rw[hg];first | done | rfl,bl⟩

 cases hr:resB s
 case true =>
  have hR1:nameB s=false:=by rw[hR0.out,hr];simp
  rw[hR1]
  go_enter Tryd.func44,Tryd.ntmps44
  go_wp2_with (first | (go_at_call 69;(with_reducible refine (implLetter_any _ _ (by omega) (by omega)).mono ?_);rintro e w1 ⟨rfl,rfl⟩) | (go_at_call 67;(with_reducible refine (implDigit_any _ _ (by omega) (by omega)).mono ?_);rintro e w2 ⟨rfl,rfl⟩) | (go_at_call 68;refine (implIsReserved_any s _ HT.out).mono ?_;rintro e w3 ⟨rfl,hb3⟩))
  all_goals
   go_returns
   exact⟨rfl,bl⟩
 have hR1:=hide (show nameB s=ldB s by rw[hR0.out,hr,hg];simp)
 clear hR0
 go_enter Tryd.func44,Tryd.ntmps44
 go_wp2_with (first | (go_at_call 69;(with_reducible refine (implLetter_any _ _ (by omega) (by omega)).mono ?_);rintro e w1 ⟨rfl,rfl⟩) | (go_at_call 67;(with_reducible refine (implDigit_any _ _ (by omega) (by omega)).mono ?_);rintro e w2 ⟨rfl,rfl⟩) | (go_at_call 68;refine (implIsReserved_any s _ HT.out).mono ?_;rintro e w3 ⟨rfl,hb3⟩))
 go_loopw [3] (fun v wr=>∃m:Nat,v=.int .i64 m∧m≤s.size∧Hid (∀j (hj:j<s.size),j<m→letB s[j].toNat=true∨digB s[j].toNat=true)∧Bel w wr) (fun v _=>s.size - (intOf v).toNat)
 case atStart=>exact⟨0,rfl,by omega,fun j _ hj=>by omega,bl⟩
 case round =>
  obtain⟨m,rfl,m1,hm,hbw⟩:=hrel
  by_cases h3:m<s.size
  ·
   have hd:decide ((m:Int)<(s.size:Int))=true:=by simp[h3]
   have hcm:(s[m].toNat:Int)<256:=by have:=s[m].toNat_lt;omega
   cases hl:letB s[m].toNat <;> cases hdg:digB s[m].toNat
   ·
    have hR2:=hide (hR1.out.trans (ldB_no m h3 hl hdg))
    go_wp2_with (first | (go_at_call 69;(with_reducible refine (implLetter_any _ _ (by omega) (by omega)).mono ?_);rintro e w1 ⟨rfl,rfl⟩) | (go_at_call 67;(with_reducible refine (implDigit_any _ _ (by omega) (by omega)).mono ?_);rintro e w2 ⟨rfl,rfl⟩) | (go_at_call 68;refine (implIsReserved_any s _ HT.out).mono ?_;rintro e w3 ⟨rfl,hb3⟩))
    all_goals
     go_returns
     exact⟨by rw[hR2.out];first | done | rfl,bl⟩
   all_goals
    go_wp2_with (first | (go_at_call 69;(with_reducible refine (implLetter_any _ _ (by omega) (by omega)).mono ?_);rintro e w1 ⟨rfl,rfl⟩) | (go_at_call 67;(with_reducible refine (implDigit_any _ _ (by omega) (by omega)).mono ?_);rintro e w2 ⟨rfl,rfl⟩) | (go_at_call 68;refine (implIsReserved_any s _ HT.out).mono ?_;rintro e w3 ⟨rfl,hb3⟩))
    go_roundw
    case rel=>exact⟨m+1,by go_num,by omega,fun j hj hjm=>by
     by_cases e:j=m
     ·
      subst e;first | exact Or.inl hl | exact Or.inr hdg
     ·
      exact hm.out j hj (by omega),bl⟩
    case measure=>simp[intOf];omega
  ·
   have hd:decide ((m:Int)<(s.size:Int))=false:=by simp[h3]
   have hR2:=hide (hR1.out.trans (ldB_all fun k hk=>hm.out k hk (by omega)))
   go_wp2_with (fail)
   all_goals
    go_returns
    exact⟨by rw[hR2.out];first | done | rfl,bl⟩
end Go.Proofs.YtoikhhnmbbbjjaaDoor
namespace Go.Proofs.YtoikhhnmbbbjjaaDoor
set_option linter.unusedVariables false
set_option linter.unusedSimpArgs false
set_option maxRecDepth 100000
open Go.RowKit
abbrev strsD (l:List ByteArray):List (List Dat):=l.map fun x=>[Dat.str x]
theorem slice_uptoS {b o len c m:Nat} (h:m≤c) (w:World):(Instr.slice 24 (.slice (some ⟨b,o,none⟩) len c) none (some (.int .i64 (m:Int))) none).run Tryd.prog w=.ok (.slice (some ⟨b,o,none⟩) m c) w:=by
 rw[run_slice_h (P:=Tryd.prog) (ht:=by rw[Tryd.underlying24];kernel_rfl) (h0:=by omega) (h2:=by omega)]
 simp[sliced,go_sem,Tryd.sizeOf9,Addr.add]
theorem getD_lt2 (l:List ByteArray) (k:Nat) (h:k<l.length):l.getD k ByteArray.empty=l[k]:=by simp[List.getD,h]
theorem idx_le_from (x:ByteArray):∀(l:List ByteArray) (j i:Nat) (h:j<l.length),l[j]=x→Lib.idxFromS l x i≤((i+j:Nat):Int)
 | z :: r,j,i,h,he=>by
  rw[Lib.idxFromS]
  split
  ·
   omega
  ·
   rename_i hz
   cases j with
   | zero=>exact absurd (by simpa using he) hz
   | succ j =>
    have:=idx_le_from x r j (i+1) (by simpa using h) (by simpa using he)
    omega
theorem idx_le_of (l:List ByteArray) (x:ByteArray) (j:Nat) (h:j<l.length) (he:l[j]=x) (i:Nat) (hi:j<i):Lib.idxOfS l x<(i:Int):=by
 have:=idx_le_from x l j 0 h he
 rw[Lib.idxOfS]
 omega
def twiceB (l:List ByteArray):Bool:=(List.range l.length).any fun i=>Lib.containsS (l.take i) (l.getD i ByteArray.empty)
theorem twice_yes {l:List ByteArray} (i:Nat) (hi:i<l.length) (h:Lib.containsS (l.take i) l[i]=true):twiceB l=true:=by
 unfold twiceB
 rw[List.any_eq_true]
 exact⟨i,List.mem_range.2 hi,by rw[getD_lt2 l i hi];exact h⟩
theorem twice_no {l:List ByteArray} (h:∀i (hi:i<l.length),Lib.containsS (l.take i) l[i]=false):twiceB l=false:=by
 unfold twiceB
 rw[List.any_eq_false]
 intro i hi
 have hi':=List.mem_range.1 hi
 rw[getD_lt2 l i hi',h i hi']
 simp
theorem idx_lt_iff {l:List ByteArray} {i:Nat} (hi:i<l.length):decide (Lib.idxOfS l l[i]<(i:Int))=Lib.containsS (l.take i) l[i]:=by
 rw[Bool.eq_iff_iff,decide_eq_true_eq,Lib.containsS_iff]
 constructor
 ·
  intro h
  apply Classical.byContradiction
  intro hn
  have hh:=Lib.idxFromS_hit l[i] l i 0 hi (by rw[getD_lt2 l i hi]) (fun j hj he=>hn (by
   rw[getD_lt2 l j (by omega)]at he
   rw[←he]
   exact List.mem_iff_getElem.2 ⟨j,by simp;omega,by simp⟩))
  rw[Lib.idxOfS,hh]at h
  omega
 ·
  intro h
  obtain⟨j,hj,he⟩:=List.mem_iff_getElem.1 h
  rw[List.getElem_take]at he
  have hji:j<i:=by simp at hj;omega
  exact idx_le_of l l[i] j (by omega) he i hji
theorem Row.strs {w:World} {S:Nat→Prop} {b o c:Nat} {l:List ByteArray} (h:Row w S 1 (some ⟨b,o,none⟩) c (strsD l)):∀j,j<l.length→w.cell? ⟨b,o+j,none⟩=some (.string (l.getD j ByteArray.empty)):=by
 intro j hj
 obtain⟨b',o',hA,-,-,-,hc⟩:=strAt h j hj
 injection Option.some.inj hA with q1 q2 _
 subst q1 q2
 rw[getD_lt2 l j hj]
 exact hc
theorem Row.addr {w:World} {S:Nat→Prop} {k c:Nat} {A:Option Addr} {xs:List (List Dat)} (h:Row w S k A c xs) (hne:0<xs.length):∃b o,A=some ⟨b,o,none⟩∧S b∧b<w.heap.size:=by
 obtain⟨b,o,h1,h2,h3,-⟩:=h.2.2 (fun e=>by rw[e]at hne;simp at hne)
 exact⟨b,o,h1,h2,h3⟩
theorem containsS_row (l:List ByteArray) (n:Nat) (x:ByteArray) (S:Nat→Prop) (w:World) (A:Option Addr) (c c':Nat) (hR:Row w S 1 A c' (strsD l)) (hn:n≤l.length) :
  Calls Tryd.prog 70 #[.slice A n c,.string x] w fun e w'=>e=.returned (.bool (Lib.containsS (l.take n) x))∧w=w':=by
 rcases Nat.eq_zero_or_pos n with h0 | h0
 ·
  subst h0
  have:=Tryd.slices_Contains_string_empty A c x w
  exact this.mono fun e w' ⟨h1,h2⟩=>⟨by rw[h1];rfl,h2.symm⟩
 ·
  obtain⟨b,o,rfl,-,-⟩:=hR.addr (by simp;omega)
  have hb:=hR.2.1
  have hl:=hR.1
  simp only[List.length_map]at hl
  unfold maxLen at hb
  exact (Tryd.slices_Contains_string b o n c l x w hn (by omega) hR.strs).mono fun e w' ⟨h1,h2⟩=>⟨h1,h2.symm⟩
set_option maxHeartbeats 400000 in
theorem l9Find_row (l:List ByteArray) (x:ByteArray) (S:Nat→Prop) (w:World) (A:Option Addr) (c:Nat) (hR:Row w S 1 A c (strsD l)) :
  Calls Tryd.prog 64 #[.slice A l.length c,.string x] w fun e w'=>e=.returned (.int .i64 (Lib.idxOfS l x))∧w=w':=by
 have HR:=hide hR
 have hlen:=hR.1
 have hcm:=hR.2.1
 simp only[List.length_map]at hlen
 unfold maxLen at hcm
 clear hR
 go_enter Tryd.func64,Tryd.ntmps64
 go_wp2_with (fail)
 go_loopw [5] (fun v wr=>∃m:Nat,v=.int .i64 m∧m≤l.length∧Hid (∀j,j<m→l.getD j ByteArray.empty≠x)∧wr=w) (fun v _=>l.length - (intOf v).toNat)
 case atStart=>exact⟨0,rfl,by omega,fun j hj=>by omega,rfl⟩
 case round =>
  obtain⟨m,rfl,m1,hm,rfl⟩:=hrel
  by_cases h1:m<l.length
  ·
   have hd:decide ((m:Int)<(l.length:Int))=true:=by simp[h1]
   obtain⟨b1,o1,hA1,hS1,hl1,hz1,c1⟩:=strAt HR.out m h1
   subst hA1
   have hw:IntKind.i64.wrap ((m:Int)+1)=(m:Int)+1:=by rw[IntKind.wrap_i64];omega
   by_cases hx:l[m]=x
   ·
    have hRr:Lib.idxOfS l x=m:=by
     have:=Lib.idxFromS_hit x l m 0 h1 (by simp[List.getD,h1,hx]) hm.out
     simpa[Lib.idxOfS]using this
    go_wp2_with (fail)
    all_goals
     go_returns
     exact⟨by rw[hRr];first | done | rfl,rfl⟩
   ·
    have hd2:(l[m].toList==x.toList)=false:=by rw[beq_eq_false_iff_ne];exact fun h=>hx ((ba_eq _ _).1 h)
    go_wp2_with (fail)
    exact⟨⟨m+1,rfl,h1,fun j hj=>by
     by_cases e:j=m
     ·
      subst e;simpa[List.getD,h1]using hx
     ·
      exact hm.out j (by omega),trivial⟩,by simp only[intOf];omega⟩
  ·
   have hd:decide ((m:Int)<(l.length:Int))=false:=by simp[h1]
   have hRr:Lib.idxOfS l x = -1:=Lib.idxFromS_miss x l 0 fun j hj=>hm.out j (by omega)
   go_wp2_with (fail)
   all_goals
    go_returns
    exact⟨by rw[hRr];first | done | rfl,rfl⟩
set_option maxHeartbeats 400000 in
theorem namesOk_row (l:List ByteArray) (most:Int) (S:Nat→Prop) (w:World) (A:Option Addr) (c:Nat) (hR:Row w S 1 A c (strsD l)) :
  Calls Tryd.prog 37 #[.slice A l.length c,.int .i64 most] w fun e w'=>e=.returned (.bool (l.all nameB&&decide ((l.length:Int)≤most)))∧Bel w w':=by
 have HR:=hide hR
 have hlen:=hR.1
 have hcm:=hR.2.1
 simp only[List.length_map]at hlen
 unfold maxLen at hcm
 clear hR
 go_enter Tryd.func37,Tryd.ntmps37
 go_wp2_with (fail)
 go_loopw [5] (fun v wr=>∃m:Nat,v=.int .i64 m∧m≤l.length∧Hid (∀j (hj:j<l.length),j<m→nameB l[j]=true)∧Bel w wr) (fun v _=>l.length - (intOf v).toNat)
 case atStart=>exact⟨0,rfl,by omega,fun j _ hj=>by omega,Bel.refl _⟩
 case round =>
  obtain⟨m,rfl,m1,hm,hbw⟩:=hrel
  by_cases h1:m<l.length
  ·
   have hd:decide ((m:Int)<(l.length:Int))=true:=by simp[h1]
   obtain⟨b1,o1,hA1,hS1,hl1,hz1,c1⟩:=strAt HR.out m h1
   subst hA1
   replace c1:=(hbw.box b1 hl1 _).trans c1
   cases hn:nameB l[m]
   ·
    have HA:=hide (show l.all nameB=false from List.all_eq_false.2 ⟨l[m],List.getElem_mem h1,by rw[hn];simp⟩)
    go_wp2_with ((go_at_call 38;refine (specIsName_any l[m] _).mono ?_;rintro e w1 ⟨rfl,hb1⟩))
    all_goals
     go_returns
     exact⟨by rw[HA.out];simp,bl⟩
   ·
    go_wp2_with ((go_at_call 38;refine (specIsName_any l[m] _).mono ?_;rintro e w1 ⟨rfl,hb1⟩))
    go_roundw
    case rel=>exact⟨m+1,by go_num,by omega,fun j hj hjm=>by
     by_cases e:j=m
     ·
      subst e;exact hn
     ·
      exact hm.out j hj (by omega),bl⟩
    case measure=>simp[intOf];omega
  ·
   have hd:decide ((m:Int)<(l.length:Int))=false:=by simp[h1]
   have HA:=hide (show l.all nameB=true from List.all_eq_true.2 fun x hx=>by
    obtain⟨k,hk,rfl⟩:=List.mem_iff_getElem.1 hx
    exact hm.out k hk (by omega))
   go_wp2_with (fail)
   all_goals
    go_returns
    exact⟨by rw[HA.out];simp_all,bl⟩
set_option maxHeartbeats 400000 in
theorem allNames_row (l:List ByteArray) (S:Nat→Prop) (w:World) (A:Option Addr) (c:Nat) (hR:Row w S 1 A c (strsD l)) (ht:Sp w) :
  Calls Tryd.prog 20 #[.slice A l.length c] w fun e w'=>e=.returned (.bool (l.all nameB))∧Bel w w':=by
 have HR:=hide hR
 have hlen:=hR.1
 have hcm:=hR.2.1
 simp only[List.length_map]at hlen
 unfold maxLen at hcm
 clear hR
 have HT:=hide ht
 clear ht
 go_enter Tryd.func20,Tryd.ntmps20
 go_wp2_with (fail)
 go_loopw [7] (fun v wr=>∃m:Nat,v=.int .i64 m∧m≤l.length∧Hid (∀j (hj:j<l.length),j<m→nameB l[j]=true)∧Bel w wr) (fun v _=>l.length - (intOf v).toNat)
 case atStart=>exact⟨0,rfl,by omega,fun j _ hj=>by omega,Bel.refl _⟩
 case round =>
  obtain⟨m,rfl,m1,hm,hbw⟩:=hrel
  by_cases h1:m<l.length
  ·
   have hd:decide ((m:Int)<(l.length:Int))=true:=by simp[h1]
   obtain⟨b1,o1,hA1,hS1,hl1,hz1,c1⟩:=strAt HR.out m h1
   subst hA1
   replace c1:=(hbw.box b1 hl1 _).trans c1
   cases hn:nameB l[m]
   ·
    have HA:=hide (show l.all nameB=false from List.all_eq_false.2 ⟨l[m],List.getElem_mem h1,by rw[hn];simp⟩)
    go_wp2_with ((go_at_call 44;refine (implIsName_any l[m] _ (HT.out.on bl)).mono ?_;rintro e w1 ⟨rfl,hb1⟩))
    all_goals
     go_returns
     exact⟨by rw[HA.out];simp,bl⟩
   ·
    go_wp2_with ((go_at_call 44;refine (implIsName_any l[m] _ (HT.out.on bl)).mono ?_;rintro e w1 ⟨rfl,hb1⟩))
    go_roundw
    case rel=>exact⟨m+1,by go_num,by omega,fun j hj hjm=>by
     by_cases e:j=m
     ·
      subst e;exact hn
     ·
      exact hm.out j hj (by omega),bl⟩
    case measure=>simp[intOf];omega
  ·
   have hd:decide ((m:Int)<(l.length:Int))=false:=by simp[h1]
   have HA:=hide (show l.all nameB=true from List.all_eq_true.2 fun x hx=>by
    obtain⟨k,hk,rfl⟩:=List.mem_iff_getElem.1 hx
    exact hm.out k hk (by omega))
   go_wp2_with (fail)
   all_goals
    go_returns
    exact⟨by rw[HA.out];rfl,bl⟩
set_option maxHeartbeats 400000 in
theorem l9Twice_row (l:List ByteArray) (S:Nat→Prop) (w:World) (A:Option Addr) (c:Nat) (hR:Row w S 1 A c (strsD l)) :
  Calls Tryd.prog 39 #[.slice A l.length c] w fun e w'=>e=.returned (.bool (twiceB l))∧Bel w w':=by
 have HR:=hide hR
 have hlen:=hR.1
 have hcm:=hR.2.1
 simp only[List.length_map]at hlen
 unfold maxLen at hcm
 clear hR
 go_enter Tryd.func39,Tryd.ntmps39
 go_wp2_with (fail)
 go_loopw [3] (fun v wr=>∃m:Nat,v=.int .i64 m∧m≤l.length∧Hid (∀j (hj:j<l.length),j<m→Lib.containsS (l.take j) l[j]=false)∧Bel w wr) (fun v _=>l.length - (intOf v).toNat)
 case atStart=>exact⟨0,rfl,by omega,fun j _ hj=>by omega,Bel.refl _⟩
 case round =>
  obtain⟨m,rfl,m1,hm,hbw⟩:=hrel
  by_cases h1:m<l.length
  ·
   have hd:decide ((m:Int)<(l.length:Int))=true:=by simp[h1]
   obtain⟨b1,o1,hA1,hS1,hl1,hz1,c1⟩:=strAt HR.out m h1
   subst hA1
   replace c1:=(hbw.box b1 hl1 _).trans c1
   have HI:=hide (idx_lt_iff h1)
   cases hn:Lib.containsS (l.take m) l[m]
   ·
    have hix:decide (Lib.idxOfS l l[m]<(m:Int))=false:=HI.out.trans hn
    go_wp2_with ((go_at_call 64;refine (l9Find_row l l[m] S _ _ _ (Row.bel bl HR.out)).mono ?_;rintro e w' ⟨rfl,rfl⟩))
    go_roundw
    case rel=>exact⟨m+1,by go_num,by omega,fun j hj hjm=>by
     by_cases e:j=m
     ·
      subst e;exact hn
     ·
      exact hm.out j hj (by omega),bl⟩
    case measure=>simp[intOf];omega
   ·
    have hix:decide (Lib.idxOfS l l[m]<(m:Int))=true:=HI.out.trans hn
    have HA:=hide (twice_yes m h1 hn)
    go_wp2_with ((go_at_call 64;refine (l9Find_row l l[m] S _ _ _ (Row.bel bl HR.out)).mono ?_;rintro e w' ⟨rfl,rfl⟩))
    all_goals
     go_returns
     exact⟨by rw[HA.out];first | done | rfl,bl⟩
  ·
   have hd:decide ((m:Int)<(l.length:Int))=false:=by simp[h1]
   have HA:=hide (twice_no (l:=l) fun k hk=>hm.out k hk (by omega))
   go_wp2_with (fail)
   all_goals
    go_returns
    exact⟨by rw[HA.out];first | done | rfl,bl⟩
set_option maxHeartbeats 400000 in
theorem repeated_row (l:List ByteArray) (S:Nat→Prop) (w:World) (A:Option Addr) (c:Nat) (hR:Row w S 1 A c (strsD l)) :
  Calls Tryd.prog 45 #[.slice A l.length c] w fun e w'=>e=.returned (.bool (twiceB l))∧Bel w w':=by
 have HR:=hide hR
 have hlen:=hR.1
 have hcm:=hR.2.1
 simp only[List.length_map]at hlen
 unfold maxLen at hcm
 clear hR
 go_enter Tryd.func45,Tryd.ntmps45
 go_wp2_with (fail)
 go_loopw [6] (fun v wr=>∃m:Nat,v=.int .i64 m∧m≤l.length∧Hid (∀j (hj:j<l.length),j<m→Lib.containsS (l.take j) l[j]=false)∧Bel w wr) (fun v _=>l.length - (intOf v).toNat)
 case atStart=>exact⟨0,rfl,by omega,fun j _ hj=>by omega,Bel.refl _⟩
 case round =>
  obtain⟨m,rfl,m1,hm,hbw⟩:=hrel
  by_cases h1:m<l.length
  ·
   have hd:decide ((m:Int)<(l.length:Int))=true:=by simp[h1]
   obtain⟨b1,o1,hA1,hS1,hl1,hz1,c1⟩:=strAt HR.out m h1
   subst hA1
   replace c1:=(hbw.box b1 hl1 _).trans c1
   have HI:=hide (idx_lt_iff h1)
   cases hn:Lib.containsS (l.take m) l[m]
   ·
    have hix:decide (Lib.idxOfS l l[m]<(m:Int))=false:=HI.out.trans hn
    go_wp2_with (fail)
    have hsl:=fun wx=>slice_uptoS (b:=b1) (o:=o1) (len:=l.length) (c:=c) (m:=m) (by omega) wx
    have HCQ:=hide (fun (wx:World) (hx:Bel w wx)=>(by have:=containsS_row l m l[m] S wx (some ⟨b1,o1,none⟩) c c (Row.bel hx HR.out) (by omega);rw[hn]at this;exact this))
    go_quiet ((go_at_call 70;exact quiet_ws (HCQ.out _ bl)))
    go_wp2_with (fail)
    go_roundw
    case rel=>exact⟨m+1,by go_num,by omega,fun j hj hjm=>by
     by_cases e:j=m
     ·
      subst e;exact hn
     ·
      exact hm.out j hj (by omega),bl⟩
    case measure=>simp[intOf];omega
   ·
    have hix:decide (Lib.idxOfS l l[m]<(m:Int))=true:=HI.out.trans hn
    have HA:=hide (twice_yes m h1 hn)
    go_wp2_with (fail)
    have hsl:=fun wx=>slice_uptoS (b:=b1) (o:=o1) (len:=l.length) (c:=c) (m:=m) (by omega) wx
    have HCQ:=hide (fun (wx:World) (hx:Bel w wx)=>(by have:=containsS_row l m l[m] S wx (some ⟨b1,o1,none⟩) c c (Row.bel hx HR.out) (by omega);rw[hn]at this;exact this))
    go_quiet ((go_at_call 70;exact quiet_ws (HCQ.out _ bl)))
    go_wp2_with (fail)
    all_goals
     go_returns
     exact⟨by rw[HA.out];first | done | rfl,bl⟩
  ·
   have hd:decide ((m:Int)<(l.length:Int))=false:=by simp[h1]
   have HA:=hide (twice_no (l:=l) fun k hk=>hm.out k hk (by omega))
   go_wp2_with (fail)
   all_goals
    go_returns
    exact⟨by rw[HA.out];first | done | rfl,bl⟩
end Go.Proofs.YtoikhhnmbbbjjaaDoor
namespace Go.Proofs.YtoikhhnmbbbjjaaDoor
set_option linter.unusedVariables false
set_option linter.unusedSimpArgs false
set_option maxRecDepth 100000
open Go.RowKit
def StoreAt (w:World) (S:Nat→Prop) (q:Nat) (t:TStore):Prop:=q<w.heap.size∧∃vs,Dat.HoldVals w S t.D vs∧∀j,j<13→w.cell? ⟨q,j,none⟩=vs[j]?
theorem StoreAt.bel {w w':World} {S:Nat→Prop} {q:Nat} {t:TStore} (hb:Bel w w') (h:StoreAt w S q t):StoreAt w' S q t:=by
 obtain⟨hq,vs,hv,hc⟩:=h
 exact⟨Nat.lt_of_lt_of_le hq hb.size,vs,hv.bel hb,fun j hj=>(hb.box q hq j).trans (hc j hj)⟩
theorem StoreAt.cells {w:World} {S:Nat→Prop} {q:Nat} {x0:List ByteArray} {x1:List TRecordType} {x2:List TObject} {x3:List TValue} {x4:ByteArray} {x5:Int} {x6:List ByteArray} {x7:List ByteArray} {x8:List TActive} {x9:Bool} {x10:Int} {x11:Int} {x12:Int} (h:StoreAt w S q (.mk x0 x1 x2 x3 x4 x5 x6 x7 x8 x9 x10 x11 x12)) :
  ∃A0 c0 A1 c1 A2 c2 A3 c3 A6 c6 A7 c7 A8 c8,q<w.heap.size∧w.cell? ⟨q,0,none⟩=some (.slice A0 x0.length c0)∧w.cell? ⟨q,1,none⟩=some (.slice A1 x1.length c1)∧w.cell? ⟨q,2,none⟩=some (.slice A2 x2.length c2)∧w.cell? ⟨q,3,none⟩=some (.slice A3 x3.length c3)∧w.cell? ⟨q,4,none⟩=some (.string x4)∧w.cell? ⟨q,5,none⟩=some (.int .i64 x5)∧w.cell? ⟨q,6,none⟩=some (.slice A6 x6.length c6)∧w.cell? ⟨q,7,none⟩=some (.slice A7 x7.length c7)∧w.cell? ⟨q,8,none⟩=some (.slice A8 x8.length c8)∧w.cell? ⟨q,9,none⟩=some (.bool x9)∧w.cell? ⟨q,10,none⟩=some (.int .i64 x10)∧w.cell? ⟨q,11,none⟩=some (.int .i64 x11)∧w.cell? ⟨q,12,none⟩=some (.int .i64 x12)∧Row w S 1 A0 c0 (x0.map fun x=>[.str x])∧Row w S 3 A1 c1 (x1.map TRecordType.D)∧Row w S 5 A2 c2 (x2.map TObject.D)∧Row w S 6 A3 c3 (x3.map TValue.D)∧x4.size≤maxLen∧InI x5∧Row w S 1 A6 c6 (x6.map fun x=>[.str x])∧Row w S 1 A7 c7 (x7.map fun x=>[.str x])∧Row w S 2 A8 c8 (x8.map TActive.D)∧InI x10∧InI x11∧InI x12:=by
 obtain⟨hq,vs,hv,hc⟩:=h
 obtain⟨A0,c0,A1,c1,A2,c2,A3,c3,A6,c6,A7,c7,A8,c8,rfl,g0,g1,g2,g3,g4,g5,g6,g7,g8,-,g10,g11,g12⟩:=TStore.vals hv
 exact⟨_,_,_,_,_,_,_,_,_,_,_,_,_,_,hq,hc 0 (by decide),hc 1 (by decide),hc 2 (by decide),hc 3 (by decide),hc 4 (by decide),hc 5 (by decide),hc 6 (by decide),hc 7 (by decide),hc 8 (by decide),hc 9 (by decide),hc 10 (by decide),hc 11 (by decide),hc 12 (by decide),g0,g1,g2,g3,g4,g5,g6,g7,g8,g10,g11,g12⟩
theorem StoreAt.opn {w:World} {S:Nat→Prop} {q:Nat} {x0:List ByteArray} {x1:List TRecordType} {x2:List TObject} {x3:List TValue} {x4:ByteArray} {x5:Int} {x6:List ByteArray} {x7:List ByteArray} {x8:List TActive} {x9:Bool} {x10:Int} {x11:Int} {x12:Int} (h:StoreAt w S q (.mk x0 x1 x2 x3 x4 x5 x6 x7 x8 x9 x10 x11 x12)) :
 ∃A0 c0 A1 c1 A2 c2 A3 c3 A6 c6 A7 c7 A8 c8,q<w.heap.size∧w.cell? ⟨q,0,none⟩=some (.slice A0 x0.length c0)∧w.cell? ⟨q,1,none⟩=some (.slice A1 x1.length c1)∧w.cell? ⟨q,2,none⟩=some (.slice A2 x2.length c2)∧w.cell? ⟨q,3,none⟩=some (.slice A3 x3.length c3)∧w.cell? ⟨q,4,none⟩=some (.string x4)∧w.cell? ⟨q,5,none⟩=some (.int .i64 x5)∧w.cell? ⟨q,6,none⟩=some (.slice A6 x6.length c6)∧w.cell? ⟨q,7,none⟩=some (.slice A7 x7.length c7)∧w.cell? ⟨q,8,none⟩=some (.slice A8 x8.length c8)∧w.cell? ⟨q,9,none⟩=some (.bool x9)∧w.cell? ⟨q,10,none⟩=some (.int .i64 x10)∧w.cell? ⟨q,11,none⟩=some (.int .i64 x11)∧w.cell? ⟨q,12,none⟩=some (.int .i64 x12)∧x0.length≤c0∧c0≤2 ^ 63 - 1∧x1.length≤c1∧c1≤2 ^ 63 - 1∧x2.length≤c2∧c2≤2 ^ 63 - 1∧x3.length≤c3∧c3≤2 ^ 63 - 1∧x6.length≤c6∧c6≤2 ^ 63 - 1∧x7.length≤c7∧c7≤2 ^ 63 - 1∧x8.length≤c8∧c8≤2 ^ 63 - 1∧x4.size≤2 ^ 63 - 1∧InI x5∧InI x10∧InI x11∧InI x12∧Hid (Row w S 1 A0 c0 (x0.map fun x=>[.str x]))∧Hid (Row w S 3 A1 c1 (x1.map TRecordType.D))∧Hid (Row w S 5 A2 c2 (x2.map TObject.D))∧Hid (Row w S 6 A3 c3 (x3.map TValue.D))∧Hid (Row w S 1 A6 c6 (x6.map fun x=>[.str x]))∧Hid (Row w S 1 A7 c7 (x7.map fun x=>[.str x]))∧Hid (Row w S 2 A8 c8 (x8.map TActive.D)):=by
 obtain⟨A0,c0,A1,c1,A2,c2,A3,c3,A6,c6,A7,c7,A8,c8,hq,e0,e1,e2,e3,e4,e5,e6,e7,e8,e9,e10,e11,e12,g0,g1,g2,g3,g4,g5,g6,g7,g8,g10,g11,g12⟩:=StoreAt.cells h
 have hl0:=g0.1
 have hm0:=g0.2.1
 simp only[List.length_map]at hl0
 unfold maxLen at hm0
 have hl1:=g1.1
 have hm1:=g1.2.1
 simp only[List.length_map]at hl1
 unfold maxLen at hm1
 have hl2:=g2.1
 have hm2:=g2.2.1
 simp only[List.length_map]at hl2
 unfold maxLen at hm2
 have hl3:=g3.1
 have hm3:=g3.2.1
 simp only[List.length_map]at hl3
 unfold maxLen at hm3
 have hl6:=g6.1
 have hm6:=g6.2.1
 simp only[List.length_map]at hl6
 unfold maxLen at hm6
 have hl7:=g7.1
 have hm7:=g7.2.1
 simp only[List.length_map]at hl7
 unfold maxLen at hm7
 have hl8:=g8.1
 have hm8:=g8.2.1
 simp only[List.length_map]at hl8
 unfold maxLen at hm8
 unfold maxLen at g4
 exact⟨_,_,_,_,_,_,_,_,_,_,_,_,_,_,hq,e0,e1,e2,e3,e4,e5,e6,e7,e8,e9,e10,e11,e12,hl0,hm0,hl1,hm1,hl2,hm2,hl3,hm3,hl6,hm6,hl7,hm7,hl8,hm8,g4,g5,g10,g11,g12,hide g0,hide g1,hide g2,hide g3,hide g6,hide g7,hide g8⟩
theorem StoreAt.mk_of {w:World} {S:Nat→Prop} {t:TStore} {vs:List Value} {cur:Array Value} {E:TypeId} (hv:Dat.HoldVals w S t.D vs) (hc:cur=vs.toArray):StoreAt (w.alloc (.cells cur E)) S w.heap.size t:=by
 subst hc
 have hl:=hv.length
 rw[TStore.D_len]at hl
 refine⟨by simp,vs,hv.bel (Bel.alloc (Bel.refl w) _),fun j hj=>?_⟩
 rw[World.cell?_alloc_mark]
 simp
def TValue.v:TValue→VVal
 | .mk k n i t lo hi=>⟨k,n,i,t,lo,hi⟩
def TObject.kind:TObject→Int | .mk k _ _ _ _=>k
def TObject.tag:TObject→Int | .mk _ t _ _ _=>t
def TObject.serial:TObject→Int | .mk _ _ s _ _=>s
def TObject.items:TObject→List TValue | .mk _ _ _ i _=>i
def TObject.keys:TObject→List TValue | .mk _ _ _ _ k=>k
def TRecordType.name:TRecordType→ByteArray | .mk n _ _=>n
def TRecordType.fields:TRecordType→List ByteArray | .mk _ f _=>f
def TRecordType.line:TRecordType→Int | .mk _ _ l=>l
def TActive.routine:TActive→Int | .mk r _=>r
def TActive.frame:TActive→Int | .mk _ f=>f
def TStore.names:TStore→List ByteArray | .mk x0 _ _ _ _ _ _ _ _ _ _ _ _=>x0
def TStore.records:TStore→List TRecordType | .mk _ x1 _ _ _ _ _ _ _ _ _ _ _=>x1
def TStore.objects:TStore→List TObject | .mk _ _ x2 _ _ _ _ _ _ _ _ _ _=>x2
def TStore.globals:TStore→List TValue | .mk _ _ _ x3 _ _ _ _ _ _ _ _ _=>x3
def TStore.subject:TStore→ByteArray | .mk _ _ _ _ x4 _ _ _ _ _ _ _ _=>x4
def TStore.position:TStore→Int | .mk _ _ _ _ _ x5 _ _ _ _ _ _ _=>x5
def TStore.output:TStore→List ByteArray | .mk _ _ _ _ _ _ x6 _ _ _ _ _ _=>x6
def TStore.actives:TStore→List TActive | .mk _ _ _ _ _ _ _ _ x8 _ _ _ _=>x8
def TStore.ticks:TStore→Int | .mk _ _ _ _ _ _ _ _ _ _ x10 _ _=>x10
def TStore.budget:TStore→Int | .mk _ _ _ _ _ _ _ _ _ _ _ x11 _=>x11
def TStore.made:TStore→Int | .mk _ _ _ _ _ _ _ _ _ _ _ _ x12=>x12
theorem TStore.names_mk {x0:List ByteArray} {x1:List TRecordType} {x2:List TObject} {x3:List TValue} {x4:ByteArray} {x5:Int} {x6:List ByteArray} {x7:List ByteArray} {x8:List TActive} {x9:Bool} {x10:Int} {x11:Int} {x12:Int}:(TStore.mk x0 x1 x2 x3 x4 x5 x6 x7 x8 x9 x10 x11 x12).names=x0:=rfl
theorem TStore.records_mk {x0:List ByteArray} {x1:List TRecordType} {x2:List TObject} {x3:List TValue} {x4:ByteArray} {x5:Int} {x6:List ByteArray} {x7:List ByteArray} {x8:List TActive} {x9:Bool} {x10:Int} {x11:Int} {x12:Int}:(TStore.mk x0 x1 x2 x3 x4 x5 x6 x7 x8 x9 x10 x11 x12).records=x1:=rfl
theorem TStore.objects_mk {x0:List ByteArray} {x1:List TRecordType} {x2:List TObject} {x3:List TValue} {x4:ByteArray} {x5:Int} {x6:List ByteArray} {x7:List ByteArray} {x8:List TActive} {x9:Bool} {x10:Int} {x11:Int} {x12:Int}:(TStore.mk x0 x1 x2 x3 x4 x5 x6 x7 x8 x9 x10 x11 x12).objects=x2:=rfl
theorem TStore.globals_mk {x0:List ByteArray} {x1:List TRecordType} {x2:List TObject} {x3:List TValue} {x4:ByteArray} {x5:Int} {x6:List ByteArray} {x7:List ByteArray} {x8:List TActive} {x9:Bool} {x10:Int} {x11:Int} {x12:Int}:(TStore.mk x0 x1 x2 x3 x4 x5 x6 x7 x8 x9 x10 x11 x12).globals=x3:=rfl
theorem TStore.made_mk {x0:List ByteArray} {x1:List TRecordType} {x2:List TObject} {x3:List TValue} {x4:ByteArray} {x5:Int} {x6:List ByteArray} {x7:List ByteArray} {x8:List TActive} {x9:Bool} {x10:Int} {x11:Int} {x12:Int}:(TStore.mk x0 x1 x2 x3 x4 x5 x6 x7 x8 x9 x10 x11 x12).made=x12:=rfl
def kindI (k:Int):Int :=
 if k=4∨k=15 then 2 else if k=5 then 3 else if k=6 then 4 else if k=7∨k=16 then 5 else if k=11 then 6 else if k=12 then 7 else if k=13∨k=19 then 1 else if k=17 then 8 else if k=20 then 9 else 0
def objInB (s:TStore) (v:VVal):Bool :=
 match s.objects[v.n.toNat]? with
 | some o=>decide (o.kind=kindI v.k)&&(if v.k=13∨v.k=16 then decide (v.i<(o.items.length:Int)) else true)
 | none=>false
def inB (s:TStore) (v:VVal):Bool :=
 wellB v&&(if kindI v.k≠0 then objInB s v
  else if v.k=8 then decide (v.n<(s.names.length:Int)) else if v.k=9 then decide (v.n≤54) else if v.k=10 then decide (v.n<(s.records.length:Int)) else if v.k=14 then decide (v.i<(s.globals.length:Int)) else true)
def dataB (s:TStore) (v:VVal):Bool:=decide (v.k≤12)&&inB s v
def allB (s:TStore) (l:List TValue):Bool:=l.all fun x=>dataB s x.v
def distB (l:List TValue):Bool:=(List.range l.length).all fun i=>!((l.take i).any fun y=>y.v.eqB (l.getD i (.mk 0 0 0 ByteArray.empty 0 0)).v)
def patKinds (op:Int):List Int :=
 if op=1 then [2] else if 2≤op∧op≤6 then [1] else if 7≤op∧op≤10 then [3] else if op=13 then [12] else if op=18∨op=20 then [13] else if op=14∨op=15 then [12,12] else if op=16∨op=17 then [12,13] else []
def chkP (s:TStore) (kd:Int) (v:VVal):Bool:=inB s v&&(if kd=13 then decide (v.k=13∨v.k=14) else decide (v.k=kd))
def all2 {α β:Type} (f:α→β→Bool):List α→List β→Bool
 | a :: r,b :: q=>f a b&&all2 f r q
 | _,_=>true
def patB (s:TStore) (op:Int) (items:List TValue):Bool:=decide (1≤op∧op≤23)&&decide ((patKinds op).length=items.length)&&all2 (fun k x=>chkP s k x.v) (patKinds op) items
def vAt (l:List TValue) (i:Nat):VVal:=(l.getD i (.mk 0 0 0 ByteArray.empty 0 0)).v
def objB (s:TStore) (o:TObject):Bool :=
  (if 2≤o.kind∧o.kind≤7 then decide (1≤o.serial∧o.serial≤s.made) else decide (o.serial=0)) &&
  (if o.kind=1 then decide (o.tag=0)&&decide (o.keys.length=0)&&decide (o.items.length≤24)&&allB s o.items
   else if o.kind=2 then decide (o.tag=0)&&decide (o.keys.length=0)&&decide (o.items.length≤40)&&allB s o.items
   else if o.kind=3 then decide (o.tag=0)&&decide (o.keys.length≤40)&&decide (o.items.length=o.keys.length+1)&&allB s o.items&&allB s o.keys&&distB o.keys
   else if o.kind=4 then decide (o.tag=0)&&decide (o.keys.length≤40)&&decide (o.items.length=0)&&allB s o.keys&&distB o.keys
   else if o.kind=5 then decide (0≤o.tag)&&decide (o.tag<(s.records.length:Int))&&decide (o.keys.length=0)&&decide (o.items.length=(s.records.getD o.tag.toNat (.mk ByteArray.empty [] 0)).fields.length)&&allB s o.items
   else if o.kind=6 then decide (1≤o.tag)&&decide (o.keys.length=0)&&decide (o.items.length=3)&&decide ((vAt o.items 0).k=19)&&decide ((vAt o.items 1).k=19)&&decide ((vAt o.items 2).k=1)&&decide (0≤(vAt o.items 2).n)&&inB s (vAt o.items 0)&&inB s (vAt o.items 1)&&inB s (vAt o.items 2)
   else if o.kind=7 then decide (o.keys.length=0)&&patB s o.tag o.items
   else if o.kind=8 then decide (o.tag=0)&&decide (o.keys.length=0)&&decide (o.items.length=2)&&decide ((vAt o.items 0).k=5)&&inB s (vAt o.items 0)&&dataB s (vAt o.items 1)
   else if o.kind=9 then decide (o.tag=0)&&decide (o.keys.length=0)&&decide (o.items.length=2)&&decide ((vAt o.items 0).k=2)&&decide ((vAt o.items 1).k=1)&&inB s (vAt o.items 0)&&inB s (vAt o.items 1)&&decide (1≤(vAt o.items 1).n∧(vAt o.items 1).n≤((vAt o.items 0).t.size:Int)+1)
   else false)
def recB (r:TRecordType):Bool:=nameB r.name&&r.fields.all nameB&&decide (r.fields.length≤6) && !twiceB r.fields&&decide (0≤r.line)
def actB (s:TStore) (a:TActive):Bool:=decide (0≤a.routine∧a.routine<(s.names.length:Int))&&decide (0≤a.frame∧a.frame<(s.objects.length:Int))&&(match s.objects[a.frame.toNat]? with | some o=>decide (o.kind=1) | none=>false)
def serB (l:List Int):Bool:=(List.range l.length).all fun i=>decide (l.getD i 0=0) || !((l.take i).any fun y=>decide (y=l.getD i 0))
def headB (s:TStore):Bool :=
 decide (s.names.length≤12)&&decide (s.records.length≤8)&&decide (s.globals.length≤12)&&decide (s.subject.size≤120)&&decide (1≤s.position∧s.position≤(s.subject.size:Int)+1)&&decide (s.actives.length≤40)&&decide (0≤s.made)&&decide (0≤s.budget∧s.budget≤4000)&&decide (0≤s.ticks∧s.ticks≤s.budget)&&s.names.all nameB
def validB (s:TStore):Bool :=
 headB s&&s.records.all recB&&s.output.all (fun x=>decide (x.size≤120))&&s.actives.all (actB s)&&s.objects.all (objB s)&&serB (s.objects.map TObject.serial)&&allB s s.globals
end Go.Proofs.YtoikhhnmbbbjjaaDoor
namespace Go.Proofs.YtoikhhnmbbbjjaaDoor
set_option linter.unusedVariables false
set_option linter.unusedSimpArgs false
set_option maxRecDepth 100000
open Go.RowKit
abbrev ObjC (f:FuncId) (s:TStore) (ob:TObject):Prop:=∀(S S':Nat→Prop) (q:Nat) (w:World) (vs:List Value),StoreAt w S q s→Dat.HoldVals w S' ob.D vs →
 Calls Tryd.prog f #[.pointer (some ⟨q,0,none⟩),.agg vs.toArray] w fun e w'=>e=.returned (.bool (objB s ob))∧Bel w w'
theorem vAt_0 (a:TValue) (r:List TValue):vAt (a :: r) 0=a.v:=rfl
theorem vAt_1 (a b:TValue) (r:List TValue):vAt (a :: b :: r) 1=b.v:=rfl
theorem vAt_2 (a b c:TValue) (r:List TValue):vAt (a :: b :: c :: r) 2=c.v:=rfl
theorem objB_1 (s:TStore) (tag ser:Int) (its keys:List TValue):objB s (.mk 1 tag ser its keys)=(decide (ser=0)&&(decide (tag=0)&&decide (keys.length=0)&&decide (its.length≤24)&&allB s its)):=by
 first | rfl | kernel_rfl
theorem objB_2 (s:TStore) (tag ser:Int) (its keys:List TValue):objB s (.mk 2 tag ser its keys)=(decide (1≤ser∧ser≤s.made)&&(decide (tag=0)&&decide (keys.length=0)&&decide (its.length≤40)&&allB s its)):=by
 first | rfl | kernel_rfl
theorem objB_3 (s:TStore) (tag ser:Int) (its keys:List TValue):objB s (.mk 3 tag ser its keys)=(decide (1≤ser∧ser≤s.made)&&(decide (tag=0)&&decide (keys.length≤40)&&decide (its.length=keys.length+1)&&allB s its&&allB s keys&&distB keys)):=by
 first | rfl | kernel_rfl
theorem objB_4 (s:TStore) (tag ser:Int) (its keys:List TValue):objB s (.mk 4 tag ser its keys)=(decide (1≤ser∧ser≤s.made)&&(decide (tag=0)&&decide (keys.length≤40)&&decide (its.length=0)&&allB s keys&&distB keys)):=by
 first | rfl | kernel_rfl
theorem objB_5 (s:TStore) (tag ser:Int) (its keys:List TValue):objB s (.mk 5 tag ser its keys)=(decide (1≤ser∧ser≤s.made)&&(decide (0≤tag)&&decide (tag<(s.records.length:Int))&&decide (keys.length=0)&&decide (its.length=(s.records.getD tag.toNat (.mk ByteArray.empty [] 0)).fields.length)&&allB s its)):=by
 first | rfl | kernel_rfl
theorem objB_6 (s:TStore) (tag ser:Int) (its keys:List TValue):objB s (.mk 6 tag ser its keys)=(decide (1≤ser∧ser≤s.made)&&(decide (1≤tag)&&decide (keys.length=0)&&decide (its.length=3)&&decide ((vAt its 0).k=19)&&decide ((vAt its 1).k=19)&&decide ((vAt its 2).k=1)&&decide (0≤(vAt its 2).n)&&inB s (vAt its 0)&&inB s (vAt its 1)&&inB s (vAt its 2))):=by
 first | rfl | kernel_rfl
theorem objB_7 (s:TStore) (tag ser:Int) (its keys:List TValue):objB s (.mk 7 tag ser its keys)=(decide (1≤ser∧ser≤s.made)&&(decide (keys.length=0)&&patB s tag its)):=by
 first | rfl | kernel_rfl
theorem objB_8 (s:TStore) (tag ser:Int) (its keys:List TValue):objB s (.mk 8 tag ser its keys)=(decide (ser=0)&&(decide (tag=0)&&decide (keys.length=0)&&decide (its.length=2)&&decide ((vAt its 0).k=5)&&inB s (vAt its 0)&&dataB s (vAt its 1))):=by
 first | rfl | kernel_rfl
theorem objB_9 (s:TStore) (tag ser:Int) (its keys:List TValue):objB s (.mk 9 tag ser its keys)=(decide (ser=0)&&(decide (tag=0)&&decide (keys.length=0)&&decide (its.length=2)&&decide ((vAt its 0).k=2)&&decide ((vAt its 1).k=1)&&inB s (vAt its 0)&&inB s (vAt its 1)&&decide (1≤(vAt its 1).n∧(vAt its 1).n≤((vAt its 0).t.size:Int)+1))):=by
 first | rfl | kernel_rfl
theorem objB_out (s:TStore) (kd tag ser:Int) (its keys:List TValue) (h:kd<1∨9<kd):objB s (.mk kd tag ser its keys)=false:=by
 unfold objB;simp only[TObject.kind,TObject.tag,TObject.serial,TObject.items,TObject.keys]
 have h1:¬kd=1:=by omega
 have h2:¬kd=2:=by omega
 have h3:¬kd=3:=by omega
 have h4:¬kd=4:=by omega
 have h5:¬kd=5:=by omega
 have h6:¬kd=6:=by omega
 have h7:¬kd=7:=by omega
 have h8:¬kd=8:=by omega
 have h9:¬kd=9:=by omega
 simp only[h1,h2,h3,h4,h5,h6,h7,h8,h9,if_false,Bool.and_false]
theorem objB_5' (s:TStore) (tag ser:Int) (its keys:List TValue) (fs:List ByteArray) (h:(s.records.getD tag.toNat (.mk ByteArray.empty [] 0)).fields=fs):objB s (.mk 5 tag ser its keys)=(decide (1≤ser∧ser≤s.made)&&(decide (0≤tag)&&decide (tag<(s.records.length:Int))&&decide (keys.length=0)&&decide (its.length=fs.length)&&allB s its)):=by
 subst h;exact objB_5 s tag ser its keys
theorem all2_eq (s:TStore) (a b:TValue):allB s [a,b]=(dataB s a.v&&dataB s b.v):=by simp[allB]
theorem all2_d2 {s:TStore} {a b:TValue} (h:allB s [a,b]=true):dataB s b.v=true:=by rw[all2_eq,Bool.and_eq_true]at h;exact h.2
theorem all2_in2 {s:TStore} {a b:TValue} (h:allB s [a,b]=true):inB s b.v=true:=by rw[all2_eq,Bool.and_eq_true]at h;have:=h.2;unfold dataB at this;rw[Bool.and_eq_true]at this;exact this.2
theorem all2_in1 {s:TStore} {a b:TValue} (h:allB s [a,b]=true):inB s a.v=true:=by rw[all2_eq,Bool.and_eq_true]at h;have:=h.1;unfold dataB at this;rw[Bool.and_eq_true]at this;exact this.2
theorem data_in {s:TStore} {v:VVal} (h:v.k≤12):dataB s v=inB s v:=by unfold dataB;rw[decide_eq_true h];rfl
theorem objB8_all (s:TStore) (tag ser:Int) (a b:TValue) (keys:List TValue) (ha:a.v.k=5) (h:allB s [a,b]=false):objB s (.mk 8 tag ser [a,b] keys)=false:=by
 rw[all2_eq,data_in (v:=a.v) (by omega)]at h
 rw[objB_8]
 simp only[vAt_0,vAt_1]
 cases h1:inB s a.v
 ·
  simp
 ·
  rw[h1]at h
  have h2:dataB s b.v=false:=by simpa using h
  rw[h2]
  simp
theorem objB9_all (s:TStore) (tag ser:Int) (a b:TValue) (keys:List TValue) (ha:a.v.k=2) (hb:b.v.k=1) (h:allB s [a,b]=false):objB s (.mk 9 tag ser [a,b] keys)=false:=by
 rw[all2_eq,data_in (v:=a.v) (by omega),data_in (v:=b.v) (by omega)]at h
 rw[objB_9]
 simp only[vAt_0,vAt_1]
 cases h1:inB s a.v
 ·
  simp
 ·
  rw[h1]at h
  have h2:inB s b.v=false:=by simpa using h
  rw[h2]
  simp
end Go.Proofs.YtoikhhnmbbbjjaaDoor
namespace Go.Proofs.YtoikhhnmbbbjjaaDoor
set_option linter.unusedVariables false
set_option linter.unusedSimpArgs false
set_option maxRecDepth 100000
open Go.RowKit
theorem val_head {s:TStore} (h:headB s=false):validB s=false:=by unfold validB;rw[h];rfl
theorem val_recs {s:TStore} (h:¬(s.records.all recB&&decide (s.records.length≤8))=true):validB s=false:=by
 by_cases h8:s.records.length≤8
 ·
  rw[decide_eq_true h8,Bool.and_true]at h
  unfold validB
  rw[Bool.eq_false_iff.2 h]
  simp
 ·
  exact val_head (by unfold headB;rw[decide_eq_false h8];simp)
theorem val_rec {s:TStore} (m:Nat) (hm:m<s.records.length) (h:recB s.records[m]=false):validB s=false:=by
 unfold validB;rw[show s.records.all recB=false from List.all_eq_false.2 ⟨_,List.getElem_mem hm,by rw[h];simp⟩];simp
theorem val_out {s:TStore} (m:Nat) (hm:m<s.output.length) (h:120<s.output[m].size):validB s=false:=by
 unfold validB;rw[show s.output.all (fun x=>decide (x.size≤120))=false from List.all_eq_false.2 ⟨_,List.getElem_mem hm,by simp;omega⟩];simp
theorem val_act {s:TStore} (m:Nat) (hm:m<s.actives.length) (h:actB s s.actives[m]=false):validB s=false:=by
 unfold validB;rw[show s.actives.all (actB s)=false from List.all_eq_false.2 ⟨_,List.getElem_mem hm,by rw[h];simp⟩];simp
theorem val_obj {s:TStore} (m:Nat) (hm:m<s.objects.length) (h:objB s s.objects[m]=false):validB s=false:=by
 unfold validB;rw[show s.objects.all (objB s)=false from List.all_eq_false.2 ⟨_,List.getElem_mem hm,by rw[h];simp⟩];simp
theorem ser_no {l:List Int} (i k:Nat) (hi:i<l.length) (hk:k<i) (h0:l[i]≠0) (h:l[k]'(by omega)=l[i]):serB l=false:=by
 unfold serB
 refine List.all_eq_false.2 ⟨i,List.mem_range.2 hi,?_⟩
 rw[show l.getD i 0=l[i] by simp[List.getD,hi]]
 have:((l.take i).any fun y=>decide (y=l[i]))=true:=List.any_eq_true.2 ⟨l[k]'(by omega),List.mem_iff_getElem.2 ⟨k,by simp;omega,by simp⟩,by simp[h]⟩
 rw[this,decide_eq_false h0]
 simp
theorem ser_of {l:List Int} (h:∀i (hi:i<l.length) k (hk:k<i),l[i]=0∨l[k]'(by omega)≠l[i]):serB l=true:=by
 unfold serB
 refine List.all_eq_true.2 fun i hi=>?_
 have hi':=List.mem_range.1 hi
 rw[show l.getD i 0=l[i] by simp[List.getD,hi']]
 by_cases h0:l[i]=0
 ·
  rw[decide_eq_true h0];rfl
 ·
  have:((l.take i).any fun y=>decide (y=l[i]))=false:=List.any_eq_false.2 fun y hy=>by
   obtain⟨k,hk,rfl⟩:=List.mem_iff_getElem.1 hy
   rw[List.getElem_take]
   rcases h i hi' k (by simp at hk;omega)with h1 | h1
   ·
    exact absurd h1 h0
   ·
    simpa using h1
  rw[this]
  simp
theorem val_ser {s:TStore} (h:serB (s.objects.map TObject.serial)=false):validB s=false:=by unfold validB;rw[h];simp
theorem val_glo {s:TStore} (h:allB s s.globals=false):validB s=false:=by unfold validB;rw[h];simp
theorem all_mem {α:Type} {f:α→Bool} {l:List α} (h:∀j (hj:j<l.length),f l[j]=true):l.all f=true:=List.all_eq_true.2 fun x hx=>by
 obtain⟨k,hk,rfl⟩:=List.mem_iff_getElem.1 hx
 exact h k hk
theorem val_yes {s:TStore} (h1:headB s=true) (h2:∀j (hj:j<s.records.length),recB s.records[j]=true) (h3:∀j (hj:j<s.output.length),s.output[j].size≤120) (h4:∀j (hj:j<s.actives.length),actB s s.actives[j]=true)
  (h5:∀j (hj:j<s.objects.length),objB s s.objects[j]=true) (h6:serB (s.objects.map TObject.serial)=true) (h7:allB s s.globals=true):validB s=true:=by
 unfold validB
 rw[h1,all_mem h2,all_mem (f:=fun x:ByteArray=>decide (x.size≤120)) (fun j hj=>by simpa using h3 j hj),all_mem h4,all_mem h5,h6,h7]
 rfl
abbrev ValC (f:FuncId) (s:TStore):Prop:=∀(S:Nat→Prop) (w:World) (vs:List Value),Dat.HoldVals w S s.D vs→Calls Tryd.prog f #[.agg vs.toArray] w fun e w'=>e=.returned (.bool (validB s))∧Bel w w'
theorem head_mk {x0:List ByteArray} {x1:List TRecordType} {x2:List TObject} {x3:List TValue} {x4:ByteArray} {x5:Int} {x6:List ByteArray} {x7:List ByteArray} {x8:List TActive} {x9:Bool} {x10:Int} {x11:Int} {x12:Int}:headB (TStore.mk x0 x1 x2 x3 x4 x5 x6 x7 x8 x9 x10 x11 x12)=(decide (x0.length≤12)&&decide (x1.length≤8)&&decide (x3.length≤12)&&decide (x4.size≤120)&&decide (1≤x5∧x5≤(x4.size:Int)+1)&&decide (x8.length≤40)&&decide (0≤x12)&&decide (0≤x11∧x11≤4000)&&decide (0≤x10∧x10≤x11)&&x0.all nameB):=rfl
end Go.Proofs.YtoikhhnmbbbjjaaDoor
namespace Go.Proofs.YtoikhhnmbbbjjaaDoor
set_option linter.unusedVariables false
set_option linter.unusedSimpArgs false
set_option maxRecDepth 100000
open Go.RowKit
theorem sp_of {W : World} (h : laidMetH Tryd.prog [("unicode.White_Space", Rows.laid_unicode_White_Space), ("strings.asciiSpace", Rows.laid_strings_asciiSpace)] W) : Sp W :=
 Lib.tabIs_of_head (g:=0) (t:=109) (e:=5) (n:=256) (rest:=[]) (by kernel_rfl) (by kernel_rfl) Tryd.underlying109 Tryd.underlying5 (by kernel_rfl) (by kernel_rfl)
  (laidMet.tail (x := ("unicode.White_Space", Rows.laid_unicode_White_Space)) h)
end Go.Proofs.YtoikhhnmbbbjjaaDoor
