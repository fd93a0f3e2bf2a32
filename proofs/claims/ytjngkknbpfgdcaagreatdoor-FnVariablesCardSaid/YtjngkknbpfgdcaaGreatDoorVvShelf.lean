import Derived.Test.YtjngkknbpfgdcaaGreatDoorVvTV
import Derived.Test.YtjngkknbpfgdcaaGreatDoorVvBits
import Derived.Test.YtjngkknbpfgdcaaGreatDoorRows
namespace Go.Proofs
open Go.Shelf
open Go.Lib in
open Go.Lib in
open Go.Lib in
open Go.Lib in
open Go.RowKit Go.Sort Go.Lib in
open Go.RowKit Go.Sort Go.Lib in
open Go.RowKit Go.Sort Go.Lib in
open Go.RowKit Go.Sort Go.Lib in
open Go.RowKit Go.Sort Go.Lib in
def Tryz.F2:Go.Shelf.Ren:=⟨fun | 171=>145 | 243=>151 | 246=>153 | 283=>156 | 284=>157 | 285=>158 | 286=>159 | 129=>162 | 317=>161 | 318=>163 | 319=>164 | 320=>165 | 337=>168 | 338=>169 | n=>n,fun | 3=>3 | 9=>9 | 2=>2 | 4=>4 | 171=>178 | 0=>0 | 53=>172 | 37=>22 | 5=>5 | 173=>181 | 212=>190 | 51=>186 | 20=>20 | 213=>191 | 46=>168 | 232=>208 | 233=>209 | n=>n,fun | 17=>2 | 18=>3 | 19=>4 | n=>n⟩
theorem Tryz.Sv:Go.Proofs.LaysM.n171 Tryz.prog Tryz.F2:={
 mixed:=by kernel_rfl
 f129:=Tryz.func162.trans (congrArg some (by kernel_rfl))
 f171:=Tryz.func145.trans (congrArg some (by kernel_rfl))
 f243:=Tryz.func151.trans (congrArg some (by kernel_rfl))
 f246:=Tryz.func153.trans (congrArg some (by kernel_rfl))
 f283:=Tryz.func156.trans (congrArg some (by kernel_rfl))
 f284:=Tryz.func157.trans (congrArg some (by kernel_rfl))
 f285:=Tryz.func158.trans (congrArg some (by kernel_rfl))
 f286:=Tryz.func159.trans (congrArg some (by kernel_rfl))
 f317:=Tryz.func161.trans (congrArg some (by kernel_rfl))
 f318:=Tryz.func163.trans (congrArg some (by kernel_rfl))
 f319:=Tryz.func164.trans (congrArg some (by kernel_rfl))
 f320:=Tryz.func165.trans (congrArg some (by kernel_rfl))
 f337:=Tryz.func168.trans (congrArg some (by kernel_rfl))
 f338:=Tryz.func169.trans (congrArg some (by kernel_rfl))
 t0:=Tryz.underlying0
 a0:=Tryz.isAgg0
 z0:=Tryz.sizeOf0
 v0:=Tryz.zeroValue0
 t2:=Tryz.underlying2
 a2:=Tryz.isAgg2
 z2:=Tryz.sizeOf2
 v2:=Tryz.zeroValue2
 t3:=Tryz.underlying3
 a3:=Tryz.isAgg3
 z3:=Tryz.sizeOf3
 v3:=Tryz.zeroValue3
 t4:=Tryz.underlying4
 a4:=Tryz.isAgg4
 z4:=Tryz.sizeOf4
 v4:=Tryz.zeroValue4
 t5:=Tryz.underlying5
 a5:=Tryz.isAgg5
 z5:=Tryz.sizeOf5
 v5:=Tryz.zeroValue5
 t9:=Tryz.underlying9
 a9:=Tryz.isAgg9
 z9:=Tryz.sizeOf9
 v9:=Tryz.zeroValue9
 t20:=Tryz.underlying20
 a20:=Tryz.isAgg20
 z20:=Tryz.sizeOf20
 v20:=Tryz.zeroValue20
 t37:=Tryz.underlying22
 a37:=Tryz.isAgg22
 z37:=Tryz.sizeOf22
 v37:=Tryz.zeroValue22
 t46:=Tryz.underlying168
 a46:=Tryz.isAgg168
 z46:=Tryz.sizeOf168
 v46:=Tryz.zeroValue168
 t51:=Tryz.underlying186
 a51:=Tryz.isAgg186
 z51:=Tryz.sizeOf186
 v51:=Tryz.zeroValue186
 t53:=Tryz.underlying172
 a53:=Tryz.isAgg172
 z53:=Tryz.sizeOf172
 v53:=Tryz.zeroValue172
 t171:=Tryz.underlying178
 a171:=Tryz.isAgg178
 z171:=Tryz.sizeOf178
 v171:=Tryz.zeroValue178
 t173:=Tryz.underlying181
 a173:=Tryz.isAgg181
 z173:=Tryz.sizeOf181
 v173:=Tryz.zeroValue181
 t212:=Tryz.underlying190
 a212:=Tryz.isAgg190
 z212:=Tryz.sizeOf190
 v212:=Tryz.zeroValue190
 t213:=Tryz.underlying191
 a213:=Tryz.isAgg191
 z213:=Tryz.sizeOf191
 t232:=Tryz.underlying208
 a232:=Tryz.isAgg208
 z232:=Tryz.sizeOf208
 v232:=Tryz.zeroValue208
 t233:=Tryz.underlying209
 a233:=Tryz.isAgg209
 z233:=Tryz.sizeOf209
 v233:=Tryz.zeroValue209
 g17:=by kernel_rfl
 g18:=by kernel_rfl
 g19:=by kernel_rfl
 i0:=by kernel_rfl
 i2:=by kernel_rfl
 i3:=by kernel_rfl
 i4:=by kernel_rfl
 i5:=by kernel_rfl
 i9:=by kernel_rfl
 i20:=by kernel_rfl
 i37:=by kernel_rfl
 i46:=by kernel_rfl
 i51:=by kernel_rfl
 i53:=by kernel_rfl
 i171:=by kernel_rfl
 i173:=by kernel_rfl
 i212:=by kernel_rfl
 i232:=by kernel_rfl
 i233:=by kernel_rfl
 m17:=by kernel_rfl
 m18:=by kernel_rfl
 m19:=by kernel_rfl }
open Go.RowKit Go.Sort Go.Lib in
theorem Tryz.strconv_Itoa (n : Int) (h0 : -9223372036854775808<=n) (h1 : n<=9223372036854775807) (w : World) (j6 : Lib.TabIs Tryz.prog w "internal/strconv.uint64pow10" .u64 Lib.pow10Tab) :
  Calls Tryz.prog 145 #[.int .i64 n] w fun e w'=>e=.returned (.string ⟨(Lib.itoa n).toArray⟩)/\∃k os,w'=grow (w.drewN k) os:=Any.strconv_Itoa Tryz.Sv n h0 h1 w j6
open Go.RowKit Go.Sort Go.Lib in
open Go.RowKit Go.Lib in
def Tryz.F3:Go.Shelf.Ren:=⟨fun | 157=>152 | 229=>154 | 199=>155 | 261=>160 | 311=>166 | 312=>167 | n=>n,fun | 9=>9 | 31=>24 | 3=>3 | 5=>5 | 4=>4 | 119=>175 | 0=>0 | 40=>177 | 152=>183 | 21=>21 | 154=>185 | 51=>186 | 141=>188 | 196=>197 | 193=>194 | 198=>200 | 49=>198 | 194=>195 | 201=>203 | 226=>206 | 46=>168 | 227=>207 | n=>n,fun | 0=>0 | 6=>1 | n=>n⟩
theorem Tryz.Sw:Go.Proofs.LaysM.n157 Tryz.prog Tryz.F3:={
 mixed:=by kernel_rfl
 f157:=Tryz.func152.trans (congrArg some (by kernel_rfl))
 f199:=Tryz.func155.trans (congrArg some (by kernel_rfl))
 f229:=Tryz.func154.trans (congrArg some (by kernel_rfl))
 f261:=Tryz.func160.trans (congrArg some (by kernel_rfl))
 f311:=Tryz.func166.trans (congrArg some (by kernel_rfl))
 f312:=Tryz.func167.trans (congrArg some (by kernel_rfl))
 t0:=Tryz.underlying0
 a0:=Tryz.isAgg0
 z0:=Tryz.sizeOf0
 v0:=Tryz.zeroValue0
 t3:=Tryz.underlying3
 a3:=Tryz.isAgg3
 z3:=Tryz.sizeOf3
 v3:=Tryz.zeroValue3
 t4:=Tryz.underlying4
 a4:=Tryz.isAgg4
 z4:=Tryz.sizeOf4
 v4:=Tryz.zeroValue4
 t5:=Tryz.underlying5
 a5:=Tryz.isAgg5
 z5:=Tryz.sizeOf5
 v5:=Tryz.zeroValue5
 t9:=Tryz.underlying9
 a9:=Tryz.isAgg9
 z9:=Tryz.sizeOf9
 v9:=Tryz.zeroValue9
 t21:=Tryz.underlying21
 a21:=Tryz.isAgg21
 z21:=Tryz.sizeOf21
 v21:=Tryz.zeroValue21
 t31:=Tryz.underlying24
 a31:=Tryz.isAgg24
 z31:=Tryz.sizeOf24
 v31:=Tryz.zeroValue24
 t40:=Tryz.underlying177
 a40:=Tryz.isAgg177
 z40:=Tryz.sizeOf177
 v40:=Tryz.zeroValue177
 t46:=Tryz.underlying168
 a46:=Tryz.isAgg168
 z46:=Tryz.sizeOf168
 v46:=Tryz.zeroValue168
 t49:=Tryz.underlying198
 a49:=Tryz.isAgg198
 z49:=Tryz.sizeOf198
 v49:=Tryz.zeroValue198
 t51:=Tryz.underlying186
 a51:=Tryz.isAgg186
 z51:=Tryz.sizeOf186
 v51:=Tryz.zeroValue186
 t119:=Tryz.underlying175
 a119:=Tryz.isAgg175
 z119:=Tryz.sizeOf175
 t141:=Tryz.underlying188
 a141:=Tryz.isAgg188
 z141:=Tryz.sizeOf188
 v141:=Tryz.zeroValue188
 t152:=Tryz.underlying183
 a152:=Tryz.isAgg183
 z152:=Tryz.sizeOf183
 v152:=Tryz.zeroValue183
 t154:=Tryz.underlying185
 a154:=Tryz.isAgg185
 z154:=Tryz.sizeOf185
 v154:=Tryz.zeroValue185
 t193:=Tryz.underlying194
 a193:=Tryz.isAgg194
 z193:=Tryz.sizeOf194
 v193:=Tryz.zeroValue194
 t194:=Tryz.underlying195
 a194:=Tryz.isAgg195
 z194:=Tryz.sizeOf195
 v194:=Tryz.zeroValue195
 t196:=Tryz.underlying197
 a196:=Tryz.isAgg197
 z196:=Tryz.sizeOf197
 v196:=Tryz.zeroValue197
 t198:=Tryz.underlying200
 a198:=Tryz.isAgg200
 z198:=Tryz.sizeOf200
 v198:=Tryz.zeroValue200
 t201:=Tryz.underlying203
 a201:=Tryz.isAgg203
 z201:=Tryz.sizeOf203
 v201:=Tryz.zeroValue203
 t226:=Tryz.underlying206
 a226:=Tryz.isAgg206
 z226:=Tryz.sizeOf206
 v226:=Tryz.zeroValue206
 t227:=Tryz.underlying207
 a227:=Tryz.isAgg207
 z227:=Tryz.sizeOf207
 v227:=Tryz.zeroValue207
 g0:=by kernel_rfl
 g6:=by kernel_rfl
 i0:=by kernel_rfl
 i3:=by kernel_rfl
 i4:=by kernel_rfl
 i5:=by kernel_rfl
 i9:=by kernel_rfl
 i21:=by kernel_rfl
 i31:=by kernel_rfl
 i40:=by kernel_rfl
 i46:=by kernel_rfl
 i49:=by kernel_rfl
 i51:=by kernel_rfl
 i141:=by kernel_rfl
 i152:=by kernel_rfl
 i154:=by kernel_rfl
 i193:=by kernel_rfl
 i194:=by kernel_rfl
 i196:=by kernel_rfl
 i198:=by kernel_rfl
 i201:=by kernel_rfl
 i226:=by kernel_rfl
 i227:=by kernel_rfl
 m0:=by kernel_rfl
 m6:=by kernel_rfl }
open Go.RowKit Go.Lib in
theorem Tryz.strings_Fields_laid (s : ByteArray) (w : World) (hs : s.size < 4294967281) (abO : ∀ (j : Nat) b, s.data.toList[j]? = some b->b.toNat < 128) (j6 : Lib.TabIs Tryz.prog w "strings.asciiSpace" .u8 Lib.asciiSpaceTab) :
  Calls Tryz.prog 152 #[.string s] w fun e w' =>
   e=.returned (.slice (some ⟨w.heap.size,0,none⟩) (Lib.fields s.data.toList).length (Lib.fields s.data.toList).length)/\w'=w.alloc (.cells ((Lib.fields s.data.toList).map fun l=>Value.string ⟨l.toArray⟩).toArray 9):=Any.strings_Fields_laid Tryz.Sw s w hs abO j6
open Go.RowKit Go.Lib in
open Go.RowKit Go.Lib in
open Go.RowKit Go.Lib in
open Go.RowKit Go.Lib in
open Go.RowKit Go.Lib in
open Go.RowKit Go.Lib in
open Go.RowKit Go.Lib in
open Go.RowKit Go.Lib in
open Go.RowKit Go.Lib in
open Go.RowKit Go.Lib in
open Go.RowKit Go.Lib in
open Go.RowKit Go.Lib in
open Go.Lib in
open Go.Lib in
def Tryz.Ii:Go.Shelf.Ren:=⟨fun | 110=>130 | 109=>149 | n=>n,fun | 31=>24 | 9=>9 | 4=>4 | 3=>3 | 0=>0 | n=>n,fun | n=>n⟩
theorem Tryz.Lj:Go.Proofs.Lays.n110 Tryz.prog Tryz.Ii:={
 mixed:=by kernel_rfl
 f109:=Tryz.func149.trans (congrArg some (by kernel_rfl))
 f110:=Tryz.func130.trans (congrArg some (by kernel_rfl))
 t0:=Tryz.underlying0
 a0:=Tryz.isAgg0
 z0:=Tryz.sizeOf0
 v0:=Tryz.zeroValue0
 t3:=Tryz.underlying3
 a3:=Tryz.isAgg3
 z3:=Tryz.sizeOf3
 v3:=Tryz.zeroValue3
 t4:=Tryz.underlying4
 a4:=Tryz.isAgg4
 z4:=Tryz.sizeOf4
 v4:=Tryz.zeroValue4
 t9:=Tryz.underlying9
 a9:=Tryz.isAgg9
 z9:=Tryz.sizeOf9
 v9:=Tryz.zeroValue9
 t31:=Tryz.underlying24
 a31:=Tryz.isAgg24
 z31:=Tryz.sizeOf24
 v31:=Tryz.zeroValue24 }
open Go.Lib in
theorem Tryz.slices_Contains_string (b off n c:Nat) (zs:List ByteArray) (x:ByteArray) (w:World) (hz:n<=zs.length) (hbig:n<=9223372036854775807) (hc:∀j,j<zs.length->w.cell? ⟨b,off+j,none⟩=some (.string (zs.getD j ByteArray.empty))) :
  Calls Tryz.prog 130 #[.slice (some ⟨b,off,none⟩) n c,.string x] w fun e w'=>e=.returned (.bool (Lib.containsS (zs.take n) x))/\w'=w:=Any.slices_Contains_string Tryz.Lj b off n c zs x w hz hbig hc
open Go.Lib in
theorem Tryz.slices_Contains_string_empty (a:Option Addr) (c:Nat) (x:ByteArray) (w:World) :
  Calls Tryz.prog 130 #[.slice a 0 c,.string x] w fun e w'=>e=.returned (.bool false)/\w'=w:=Any.slices_Contains_string_empty Tryz.Lj a c x w
end Go.Proofs
set_option linter.unusedVariables false
set_option linter.unusedSimpArgs false
set_option maxRecDepth 100000
set_option maxHeartbeats 8000000
namespace Go.Proofs.YtjngkknbpfgdcaaGreatDoor
open Go.RowKit
def Sp (w : World) : Prop := Lib.TabIs Tryz.prog w "strings.asciiSpace" .u8 Lib.asciiSpaceTab
def Wm (l:List cx) (w w':World) (e:Ending):Prop :=
 e=.returned (.slice (some ⟨w.heap.size,0,none⟩) l.length l.length)/\w'=w.alloc (.cells (l.map Value.string).toArray 9)
theorem Ef (l:List cx) (w:World) (i:Nat) (h:i<l.length) :
  (w.alloc (.cells (l.map Value.string).toArray 9)).cell? ⟨w.heap.size,i,none⟩=some (.string (l.getD i ByteArray.empty)):=by
 rw[World.cell?_alloc_mark]
 simp[h,List.getD]
theorem Od (l:List cx) (d:cx) (w:World) (ht:Sp w) (hs:d.size<4294967281) (ha:(d.data.toList.all fun b=>decide (b.toNat<128))=true)
  (hl:Lib.fields d.data.toList=l.map fun s=>s.data.toList) :
  Calls Tryz.prog 152 #[.string d] w fun e w'=>Wm l w w' e:=by
 refine (Tryz.strings_Fields_laid d w hs (fun j b hb=>by
  have:=List.all_eq_true.1 ha b (List.mem_of_getElem? hb)
  simpa using this) ht).mono ?_
 rintro e w' ⟨rfl,rfl⟩
 have e1:((Lib.fields d.data.toList).map fun l=>Value.string ⟨l.toArray⟩)=l.map Value.string:=by
  rw[hl,List.map_map];rfl
 have e2:(Lib.fields d.data.toList).length=l.length:=by rw[hl,ar]
 rw[e1,e2]
 exact⟨rfl,rfl⟩
theorem Sp.on {w w':World} (h:Sp w) (hb:U w w'):Sp w':=Joins.tab_stays (g:=0) aG h hb (Nat.le_refl _)
theorem Wm.de {l:List cx} {w w':World} {e:Ending} (h:Wm l w w' e):U w w':=by
 rw[h.2];exact U.alloc (U.refl w) _
theorem gA {a b:Bool} (h:a=b):Ending.returned (.bool a)=.returned (.bool b):=by rw[h]
def AU:List cx:=[⟨#[112,114,111,99,101,100,117,114,101]⟩,⟨#[101,110,100]⟩,⟨#[103,108,111,98,97,108]⟩,⟨#[108,111,99,97,108]⟩,⟨#[114,101,99,111,114,100]⟩,⟨#[105,102]⟩,⟨#[116,104,101,110]⟩,⟨#[101,108,115,101]⟩,⟨#[119,104,105,108,101]⟩,⟨#[117,110,116,105,108]⟩,⟨#[101,118,101,114,121]⟩,⟨#[100,111]⟩,⟨#[114,101,112,101,97,116]⟩,⟨#[99,97,115,101]⟩,⟨#[111,102]⟩,⟨#[100,101,102,97,117,108,116]⟩,⟨#[114,101,116,117,114,110]⟩,⟨#[115,117,115,112,101,110,100]⟩,⟨#[102,97,105,108]⟩,⟨#[98,114,101,97,107]⟩,⟨#[110,101,120,116]⟩,⟨#[99,114,101,97,116,101]⟩,⟨#[116,111]⟩,⟨#[98,121]⟩,⟨#[110,111,116]⟩,⟨#[100,101,102,101,114]⟩]
theorem Cs:AU.length=26:=by decide +kernel
def J7 (s:cx):Bool:=Lib.containsS AU s
def yD (b:Int):Bool:=decide (97<=b/\b<=122)||decide (65<=b/\b<=90)||decide (b=95)
def tp (b:Int):Bool:=decide (48<=b/\b<=57)
theorem Ij {b:Int} (h:yD b=true):tp b=false:=by
 unfold yD at h
 unfold tp
 simp only[Bool.or_eq_true,decide_eq_true_eq]at h
 exact ax aF
def Wn (s:cx):Bool:=s.data.toList.all fun c=>yD c.toNat||tp c.toNat
def gJ (s:cx):Bool:=decide (1<=s.size)&&decide (s.size<=12) && !tp (s.data.toList.getD 0 0).toNat && !J7 s&&Wn s
theorem Oe (l:List cx) (b c:Nat) (x:cx) (w:World) (hl:l.length<1000000) (hc:∀j,j<l.length->w.cell? ⟨b,j,none⟩=some (.string (l.getD j ByteArray.empty))) :
  Calls Tryz.prog 150 #[.slice (some ⟨b,0,none⟩) l.length c,.string x] w fun e w'=>e=.returned (.bool (Lib.containsS l x))/\w'=w:=by
 go_enter Tryz.func150,Tryz.ntmps150
 go_wp2_with (fail)
 go_loopw [5] (fun v wr=>∃m:Nat,v=.int .i64 m/\m<=l.length/\Hid (∀j,j<m->l.getD j ByteArray.empty≠x)/\wr=w) (fun v _=>l.length - (intOf v).toNat)
 case atStart=>exact⟨0,rfl,by omega,fun j hj=>by omega,rfl⟩
 case round =>
  obtain⟨m,rfl,m1,hm,rfl⟩:=hrel
  by_cases h1:m<l.length
  ·
   have hd:decide ((m:Int)<(l.length:Int))=true:=aV
   have gX:=hc m h1
   rw[show l.getD m ByteArray.empty=l[m] by simp[List.getD,h1]]at gX
   have hw:IntKind.i64.wrap ((m:Int)+1)=(m:Int)+1:=aZ
   by_cases hx:l[m]=x
   ·
    have hR:Lib.containsS l x=true:=by
     rw[Lib.containsS_iff,<-hx];exact List.getElem_mem h1
    go_wp2_with (fail)
    all_goals
     go_returns
     exact⟨by rw[hR];first | done | rfl,rfl⟩
   ·
    have GC:(l[m].toList==x.toList)=false:=by rw[aA];exact fun h=>hx ((Pd _ _).1 h)
    go_wp2_with (fail)
    exact⟨⟨m+1,rfl,h1,fun j hj=>by
     by_cases e:j=m
     ·
      subst e;simpa[List.getD,h1]using hx
     ·
      exact hm.out j aF,trivial⟩,by simp only[intOf];omega⟩
  ·
   have hd:decide ((m:Int)<(l.length:Int))=false:=aV
   have hR:Lib.containsS l x=false:=by
    have:Lib.idxOfS l x = -1:=Lib.idxFromS_miss x l 0 fun j hj=>hm.out j aF
    rw[Lib.containsS,this];rfl
   go_wp2_with (fail)
   all_goals
    go_returns
    exact⟨by rw[hR];first | done | rfl,rfl⟩
theorem jX (x:cx) (w:World) :
  Calls Tryz.prog 138 #[.string x] w fun e w'=>e=.returned (.bool (J7 x))/\U w w':=by
 have hF:=Oe AU w.heap.size 26 x (w.alloc (.cells (AU.map Value.string).toArray 9)) (by rw[Cs];omega) (fun j hj=>Ef AU w j hj)
 rw[Cs]at hF
 go_enter Tryz.func138,Tryz.ntmps138
 go_wp2_with (go_at_call 150;refine hF.mono ?_;rintro e w1 ⟨rfl,rfl⟩)
 all_goals
  go_returns
  exact⟨rfl,bl⟩
theorem yE (w:World) (ht:Sp w):Calls Tryz.prog 148 #[] w fun e w'=>Wm AU w w' e:=by
 go_enter Tryz.func148,Tryz.ntmps148
 go_wp2_with (go_at_call 152;refine (Od AU _ _ ht bP bP bP).mono ?_;rintro e w1 ⟨rfl,rfl⟩)
 all_goals
  go_returns
  exact⟨rfl,rfl⟩
theorem jY (x:cx) (w:World) (ht:Sp w) :
  Calls Tryz.prog 128 #[.string x] w fun e w'=>e=.returned (.bool (J7 x))/\U w w':=by
 have hL:=Cs
 have hF:=Tryz.slices_Contains_string w.heap.size 0 26 26 AU x (w.alloc (.cells (AU.map Value.string).toArray 9)) aF aF (fun j hj=>by simpa using Ef AU w j hj)
 rw[show AU.take 26=AU by rw[<-hL];exact List.take_length]at hF
 go_enter Tryz.func128,Tryz.ntmps128
 go_wp2_with (first
  | (go_at_call 148;refine (yE _ ht).mono ?_;rintro e w1 ⟨rfl,rfl⟩;rw[hL])
  | (go_at_call 130;refine hF.mono ?_;rintro e w1 ⟨rfl,rfl⟩))
 all_goals
  go_returns
  exact⟨rfl,bl⟩
theorem Lk {s:cx} (h:∀k (hk:k<s.size),yD (s[k].toNat)=true\/tp (s[k].toNat)=true):Wn s=true:=by
 unfold Wn
 rw[List.all_eq_true]
 intro x hx
 obtain⟨k,hk,rfl⟩:=List.mem_iff_getElem.1 hx
 have:=h k (by simpa using hk)
 simpa[ByteArray.getElem_eq_getElem_data]using this
theorem J8 {s:cx} (k:Nat) (hk:k<s.size) (h1:yD (s[k].toNat)=false) (h2:tp (s[k].toNat)=false):Wn s=false:=by
 unfold Wn
 rw[List.all_eq_false]
 exact⟨s[k],by
  rw[ByteArray.getElem_eq_getElem_data]
  exact List.mem_iff_getElem.2 ⟨k,by simpa using hk,by simp⟩,by simp[h1,h2]⟩
theorem Ik {s:cx} (h:0<s.size):(s.data.toList.getD 0 0)=s[0]:=by
 rw[ByteArray.getElem_eq_getElem_data]
 simp[List.getD]
 rw[Array.getElem?_eq_getElem (show 0<s.data.size by simpa using h)]
 rfl
theorem lW (b:Int) (w:World) (h0:0<=b) (h1:b<256):Calls Tryz.prog 137 #[.int .u8 b] w fun e w'=>e=.returned (.bool (yD b))/\w=w':=by
 unfold yD
 go_enter Tryz.func137,Tryz.ntmps137
 go_wp2
 all_goals
  go_returns
  go_light
  refine⟨?_,rfl⟩
  simp only[Array.getD_eq_getD_getElem?,List.getElem?_toArray,List.getElem?_cons_succ,List.getElem?_cons_zero,Option.getD_some]
  first | done | (simp_all;done) | (simp_all;omega) | (rw[Ending.returned.injEq,Value.bool.injEq,Bool.eq_iff_iff];simp;omega) | (simp only[Ending.returned.injEq,Value.bool.injEq];rw[Bool.eq_iff_iff];simp;omega)
theorem oe (b:Int) (w:World) (h0:0<=b) (h1:b<256):Calls Tryz.prog 139 #[.int .u8 b] w fun e w'=>e=.returned (.bool (tp b))/\w=w':=by
 unfold tp
 go_enter Tryz.func139,Tryz.ntmps139
 go_wp2
 all_goals
  go_returns
  go_light
  refine⟨?_,rfl⟩
  simp only[Array.getD_eq_getD_getElem?,List.getElem?_toArray,List.getElem?_cons_succ,List.getElem?_cons_zero,Option.getD_some]
  first | done | (simp_all;done) | (simp_all;omega) | (rw[Ending.returned.injEq,Value.bool.injEq,Bool.eq_iff_iff];simp;omega) | (simp only[Ending.returned.injEq,Value.bool.injEq];rw[Bool.eq_iff_iff];simp;omega)
theorem nC (s:cx) (w:World) :
  Calls Tryz.prog 103 #[.string s] w fun e w'=>e=.returned (.bool (gJ s))/\U w w':=by
 rcases Nat.lt_or_ge s.size 1 with h1 | h1
 ·
  have hR:gJ s=false:=by unfold gJ;rw[ax aF];rfl
  have hd:decide ((s.size:Int)<1)=true:=ay aF
  have hd':decide (s.size<1)=true:=ay aF
  rw[hR]
  go_enter Tryz.func103,Tryz.ntmps103
  go_wp2_with (fail)
  all_goals
   go_returns
   exact⟨rfl,bl⟩
 rcases Nat.lt_or_ge 12 s.size with h2 | h2
 ·
  have hR:gJ s=false:=by unfold gJ;rw[ax (show ¬s.size<=12 by omega)];simp
  rw[hR]
  go_enter Tryz.func103,Tryz.ntmps103
  go_wp2_with (fail)
  all_goals
   go_returns
   exact⟨rfl,bl⟩
 have rQ:(s[0].toNat:Int)<256:=by have:=s[0].toNat_lt;omega
 have hH:=I (Ik (s:=s) aF)
 have Uj:=I (show gJ s=(!tp s[0].toNat && !J7 s&&Wn s) by unfold gJ;rw[hH.out,ay (show 1<=s.size by omega),ay h2];simp)
 clear hH

 cases hg:yD s[0].toNat
 case false =>
  have Sx:gJ s=false:=by
   cases Zg:tp s[0].toNat
   ·
    rw[Uj.out,J8 0 aF hg Zg];simp
   ·
    rw[Uj.out,Zg];rfl
  rw[Sx]
  go_enter Tryz.func103,Tryz.ntmps103
  go_wp2_with (first | (go_at_call 137;(with_reducible refine (lW _ _ aF aF).mono ?_);rintro e w1 ⟨rfl,rfl⟩) | (go_at_call 138;refine (jX s _).mono ?_;rintro e w3 ⟨rfl,jx⟩))
  all_goals
   go_returns
   exact⟨rfl,bl⟩
 have DJ:=Ij hg

 cases hr:J7 s
 case true =>
  have Sx:gJ s=false:=by rw[Uj.out,hr];simp
  rw[Sx]
  go_enter Tryz.func103,Tryz.ntmps103
  go_wp2_with (first | (go_at_call 137;(with_reducible refine (lW _ _ aF aF).mono ?_);rintro e w1 ⟨rfl,rfl⟩) | (go_at_call 139;(with_reducible refine (oe _ _ aF aF).mono ?_);rintro e w2 ⟨rfl,rfl⟩) | (go_at_call 138;refine (jX s _).mono ?_;rintro e w3 ⟨rfl,jx⟩))
  all_goals
   go_returns
   exact⟨rfl,bl⟩
 have Sx:=I (show gJ s=Wn s by rw[Uj.out,hr,DJ];simp)
 clear Uj
 go_enter Tryz.func103,Tryz.ntmps103
 go_wp2_with (first | (go_at_call 137;(with_reducible refine (lW _ _ aF aF).mono ?_);rintro e w1 ⟨rfl,rfl⟩) | (go_at_call 139;(with_reducible refine (oe _ _ aF aF).mono ?_);rintro e w2 ⟨rfl,rfl⟩) | (go_at_call 138;refine (jX s _).mono ?_;rintro e w3 ⟨rfl,jx⟩))
 go_loopw [3] (fun v wr=>∃m:Nat,v=.int .i64 m/\m<=s.size/\Hid (∀j (hj:j<s.size),j<m->yD s[j].toNat=true\/tp s[j].toNat=true)/\U w wr) (fun v _=>s.size - (intOf v).toNat)
 case atStart=>exact⟨0,rfl,by omega,fun j _ hj=>by omega,bl⟩
 case round =>
  obtain⟨m,rfl,m1,hm,dX⟩:=hrel
  by_cases h3:m<s.size
  ·
   have hd:decide ((m:Int)<(s.size:Int))=true:=cg
   have gX:(s[m].toNat:Int)<256:=by have:=s[m].toNat_lt;omega
   cases hl:yD s[m].toNat <;> cases Zg:tp s[m].toNat
   ·
    have hR2:=I (Sx.out.trans (J8 m h3 hl Zg))
    go_wp2_with (first | (go_at_call 137;(with_reducible refine (lW _ _ aF aF).mono ?_);rintro e w1 ⟨rfl,rfl⟩) | (go_at_call 139;(with_reducible refine (oe _ _ aF aF).mono ?_);rintro e w2 ⟨rfl,rfl⟩) | (go_at_call 138;refine (jX s _).mono ?_;rintro e w3 ⟨rfl,jx⟩))
    all_goals
     go_returns
     exact⟨by rw[hR2.out];first | done | rfl,bl⟩
   all_goals
    go_wp2_with (first | (go_at_call 137;(with_reducible refine (lW _ _ aF aF).mono ?_);rintro e w1 ⟨rfl,rfl⟩) | (go_at_call 139;(with_reducible refine (oe _ _ aF aF).mono ?_);rintro e w2 ⟨rfl,rfl⟩) | (go_at_call 138;refine (jX s _).mono ?_;rintro e w3 ⟨rfl,jx⟩))
    go_roundw
    case rel=>exact⟨m+1,by go_num,by omega,fun j hj uy=>by
     by_cases e:j=m
     ·
      subst e;first | exact Or.inl hl | exact Or.inr Zg
     ·
      exact hm.out j hj aF,bl⟩
    case measure=>simp[intOf];omega
  ·
   have hd:decide ((m:Int)<(s.size:Int))=false:=cg
   have hR2:=I (Sx.out.trans (Lk fun k hk=>hm.out k hk aF))
   go_wp2_with (fail)
   all_goals
    go_returns
    exact⟨by rw[hR2.out];first | done | rfl,bl⟩
theorem nD (b:Int) (w:World) (h0:0<=b) (h1:b<256):Calls Tryz.prog 129 #[.int .u8 b] w fun e w'=>e=.returned (.bool (yD b))/\w=w':=by
 unfold yD
 go_enter Tryz.func129,Tryz.ntmps129
 go_wp2
 all_goals
  go_returns
  go_light
  refine⟨?_,rfl⟩
  simp only[Array.getD_eq_getD_getElem?,List.getElem?_toArray,List.getElem?_cons_succ,List.getElem?_cons_zero,Option.getD_some]
  first | done | (simp_all;done) | (simp_all;omega) | (rw[Ending.returned.injEq,Value.bool.injEq,Bool.eq_iff_iff];simp;omega) | (simp only[Ending.returned.injEq,Value.bool.injEq];rw[Bool.eq_iff_iff];simp;omega)
theorem mF (b:Int) (w:World) (h0:0<=b) (h1:b<256):Calls Tryz.prog 127 #[.int .u8 b] w fun e w'=>e=.returned (.bool (tp b))/\w=w':=by
 unfold tp
 go_enter Tryz.func127,Tryz.ntmps127
 go_wp2
 all_goals
  go_returns
  go_light
  refine⟨?_,rfl⟩
  simp only[Array.getD_eq_getD_getElem?,List.getElem?_toArray,List.getElem?_cons_succ,List.getElem?_cons_zero,Option.getD_some]
  first | done | (simp_all;done) | (simp_all;omega) | (rw[Ending.returned.injEq,Value.bool.injEq,Bool.eq_iff_iff];simp;omega) | (simp only[Ending.returned.injEq,Value.bool.injEq];rw[Bool.eq_iff_iff];simp;omega)
theorem nA (s:cx) (w:World) (ht:Sp w) :
  Calls Tryz.prog 94 #[.string s] w fun e w'=>e=.returned (.bool (gJ s))/\U w w':=by
 have HT:=I ht
 clear ht
 rcases Nat.lt_or_ge s.size 1 with h1 | h1
 ·
  have hR:gJ s=false:=by unfold gJ;rw[ax aF];rfl
  have hd:decide ((s.size:Int)<1)=true:=ay aF
  have hd':decide (s.size<1)=true:=ay aF
  rw[hR]
  go_enter Tryz.func94,Tryz.ntmps94
  go_wp2_with (fail)
  all_goals
   go_returns
   exact⟨rfl,bl⟩
 rcases Nat.lt_or_ge 12 s.size with h2 | h2
 ·
  have hR:gJ s=false:=by unfold gJ;rw[ax (show ¬s.size<=12 by omega)];simp
  rw[hR]
  go_enter Tryz.func94,Tryz.ntmps94
  go_wp2_with (fail)
  all_goals
   go_returns
   exact⟨rfl,bl⟩
 have rQ:(s[0].toNat:Int)<256:=by have:=s[0].toNat_lt;omega
 have hH:=I (Ik (s:=s) aF)
 have Uj:=I (show gJ s=(!tp s[0].toNat && !J7 s&&Wn s) by unfold gJ;rw[hH.out,ay (show 1<=s.size by omega),ay h2];simp)
 clear hH

 cases hg:tp s[0].toNat
 case true =>
  rw[Uj.out]
  go_enter Tryz.func94,Tryz.ntmps94
  go_wp2_with (first | (go_at_call 127;(with_reducible refine (mF _ _ aF aF).mono ?_);rintro e w2 ⟨rfl,rfl⟩) | (go_at_call 128;refine (jY s _ HT.out).mono ?_;rintro e w3 ⟨rfl,jx⟩))
  all_goals
   go_returns
   exact⟨by rw[hg];first | done | rfl,bl⟩

 cases hr:J7 s
 case true =>
  have Sx:gJ s=false:=by rw[Uj.out,hr];simp
  rw[Sx]
  go_enter Tryz.func94,Tryz.ntmps94
  go_wp2_with (first | (go_at_call 129;(with_reducible refine (nD _ _ aF aF).mono ?_);rintro e w1 ⟨rfl,rfl⟩) | (go_at_call 127;(with_reducible refine (mF _ _ aF aF).mono ?_);rintro e w2 ⟨rfl,rfl⟩) | (go_at_call 128;refine (jY s _ HT.out).mono ?_;rintro e w3 ⟨rfl,jx⟩))
  all_goals
   go_returns
   exact⟨rfl,bl⟩
 have Sx:=I (show gJ s=Wn s by rw[Uj.out,hr,hg];simp)
 clear Uj
 go_enter Tryz.func94,Tryz.ntmps94
 go_wp2_with (first | (go_at_call 129;(with_reducible refine (nD _ _ aF aF).mono ?_);rintro e w1 ⟨rfl,rfl⟩) | (go_at_call 127;(with_reducible refine (mF _ _ aF aF).mono ?_);rintro e w2 ⟨rfl,rfl⟩) | (go_at_call 128;refine (jY s _ HT.out).mono ?_;rintro e w3 ⟨rfl,jx⟩))
 go_loopw [3] (fun v wr=>∃m:Nat,v=.int .i64 m/\m<=s.size/\Hid (∀j (hj:j<s.size),j<m->yD s[j].toNat=true\/tp s[j].toNat=true)/\U w wr) (fun v _=>s.size - (intOf v).toNat)
 case atStart=>exact⟨0,rfl,by omega,fun j _ hj=>by omega,bl⟩
 case round =>
  obtain⟨m,rfl,m1,hm,dX⟩:=hrel
  by_cases h3:m<s.size
  ·
   have hd:decide ((m:Int)<(s.size:Int))=true:=cg
   have gX:(s[m].toNat:Int)<256:=by have:=s[m].toNat_lt;omega
   cases hl:yD s[m].toNat <;> cases Zg:tp s[m].toNat
   ·
    have hR2:=I (Sx.out.trans (J8 m h3 hl Zg))
    go_wp2_with (first | (go_at_call 129;(with_reducible refine (nD _ _ aF aF).mono ?_);rintro e w1 ⟨rfl,rfl⟩) | (go_at_call 127;(with_reducible refine (mF _ _ aF aF).mono ?_);rintro e w2 ⟨rfl,rfl⟩) | (go_at_call 128;refine (jY s _ HT.out).mono ?_;rintro e w3 ⟨rfl,jx⟩))
    all_goals
     go_returns
     exact⟨by rw[hR2.out];first | done | rfl,bl⟩
   all_goals
    go_wp2_with (first | (go_at_call 129;(with_reducible refine (nD _ _ aF aF).mono ?_);rintro e w1 ⟨rfl,rfl⟩) | (go_at_call 127;(with_reducible refine (mF _ _ aF aF).mono ?_);rintro e w2 ⟨rfl,rfl⟩) | (go_at_call 128;refine (jY s _ HT.out).mono ?_;rintro e w3 ⟨rfl,jx⟩))
    go_roundw
    case rel=>exact⟨m+1,by go_num,by omega,fun j hj uy=>by
     by_cases e:j=m
     ·
      subst e;first | exact Or.inl hl | exact Or.inr Zg
     ·
      exact hm.out j hj aF,bl⟩
    case measure=>simp[intOf];omega
  ·
   have hd:decide ((m:Int)<(s.size:Int))=false:=cg
   have hR2:=I (Sx.out.trans (Lk fun k hk=>hm.out k hk aF))
   go_wp2_with (fail)
   all_goals
    go_returns
    exact⟨by rw[hR2.out];first | done | rfl,bl⟩
abbrev Ct (l:List cx):List (List Y):=l.map fun x=>[Y.str x]
theorem zQ {b o len c m:Nat} (h:m<=c) (w:World):(Instr.slice 24 (.slice (some ⟨b,o,none⟩) len c) none (some (.int .i64 (m:Int))) none).run Tryz.prog w=.ok (.slice (some ⟨b,o,none⟩) m c) w:=by
 rw[run_slice_h (P:=Tryz.prog) (ht:=by rw[Tryz.underlying24];kernel_rfl) (h0:=by omega) (h2:=by omega)]
 simp[sliced,go_sem,Tryz.sizeOf9,Addr.add]
theorem ui (l:List cx) (k:Nat) (h:k<l.length):l.getD k ByteArray.empty=l[k]:=by simp[List.getD,h]
theorem zR (x:cx):∀(l:List cx) (j i:Nat) (h:j<l.length),l[j]=x->Lib.idxFromS l x i<=((i+j:Nat):Int)
 | z :: r,j,i,h,he=>by
  rw[Lib.idxFromS]
  split
  ·
   omega
  ·
   rename_i hz
   cases j with
   | zero=>exact absurd (by simpa using he) hz
   | succ j =>
    have:=zR x r j (i+1) bR (by simpa using he)
    omega
theorem Of (l:List cx) (x:cx) (j:Nat) (h:j<l.length) (he:l[j]=x) (i:Nat) (hi:j<i):Lib.idxOfS l x<(i:Int):=by
 have:=zR x l j 0 h he
 rw[Lib.idxOfS]
 omega
def qk (l:List cx):Bool:=(List.range l.length).any fun i=>Lib.containsS (l.take i) (l.getD i ByteArray.empty)
theorem Eg {l:List cx} (i:Nat) (hi:i<l.length) (h:Lib.containsS (l.take i) l[i]=true):qk l=true:=by
 unfold qk
 rw[List.any_eq_true]
 exact⟨i,List.mem_range.2 hi,by rw[ui l i hi];exact h⟩
theorem Il {l:List cx} (h:∀i (hi:i<l.length),Lib.containsS (l.take i) l[i]=false):qk l=false:=by
 unfold qk
 rw[List.any_eq_false]
 intro i hi
 have AF:=List.mem_range.1 hi
 rw[ui l i AF,h i AF]
 simp
theorem Cu {l:List cx} {i:Nat} (hi:i<l.length):decide (Lib.idxOfS l l[i]<(i:Int))=Lib.containsS (l.take i) l[i]:=by
 rw[Bool.eq_iff_iff,decide_eq_true_eq,Lib.containsS_iff]
 constructor
 ·
  intro h
  apply Classical.byContradiction
  intro hn
  have hh:=Lib.idxFromS_hit l[i] l i 0 hi (by rw[ui l i hi]) (fun j hj he=>hn (by
   rw[ui l j aF]at he
   rw[<-he]
   exact List.mem_iff_getElem.2 ⟨j,by simp;omega,by simp⟩))
  rw[Lib.idxOfS,hh]at h
  omega
 ·
  intro h
  obtain⟨j,hj,he⟩:=List.mem_iff_getElem.1 h
  rw[List.getElem_take]at he
  have hji:j<i:=by simp at hj;omega
  exact Of l l[i] j aF he i hji
theorem Row.strs {w:World} {S:Nat->Prop} {b o c:Nat} {l:List cx} (h:Row w S 1 (some ⟨b,o,none⟩) c (Ct l)):∀j,j<l.length->w.cell? ⟨b,o+j,none⟩=some (.string (l.getD j ByteArray.empty)):=by
 intro j hj
 obtain⟨b',o',hA,-,-,-,hc⟩:=zO h j hj
 injection Option.some.inj hA with q1 q2 _
 subst q1 q2
 rw[ui l j hj]
 exact hc
theorem Row.addr {w:World} {S:Nat->Prop} {k c:Nat} {A:Option Addr} {xs:List (List Y)} (h:Row w S k A c xs) (iP:0<xs.length):∃b o,A=some ⟨b,o,none⟩/\S b/\b<w.heap.size:=by
 obtain⟨b,o,h1,h2,h3,-⟩:=h.2.2 (fun e=>by rw[e]at iP;simp at iP)
 exact⟨b,o,h1,h2,h3⟩
theorem vN (l:List cx) (n:Nat) (x:cx) (S:Nat->Prop) (w:World) (A:Option Addr) (c c':Nat) (hR:Row w S 1 A c' (Ct l)) (hn:n<=l.length) :
  Calls Tryz.prog 130 #[.slice A n c,.string x] w fun e w'=>e=.returned (.bool (Lib.containsS (l.take n) x))/\w=w':=by
 rcases Nat.eq_zero_or_pos n with h0 | h0
 ·
  subst h0
  have:=Tryz.slices_Contains_string_empty A c x w
  exact this.mono fun e w' ⟨h1,h2⟩=>⟨by rw[h1];rfl,h2.symm⟩
 ·
  obtain⟨b,o,rfl,-,-⟩:=hR.addr aH
  have hb:=hR.2.1
  have hl:=hR.1
  simp only[ar]at hl
  unfold maxLen at hb
  exact (Tryz.slices_Contains_string b o n c l x w hn aF hR.strs).mono fun e w' ⟨h1,h2⟩=>⟨h1,h2.symm⟩
theorem Cv (l:List cx) (x:cx) (S:Nat->Prop) (w:World) (A:Option Addr) (c:Nat) (hR:Row w S 1 A c (Ct l)) :
  Calls Tryz.prog 140 #[.slice A l.length c,.string x] w fun e w'=>e=.returned (.int .i64 (Lib.idxOfS l x))/\w=w':=by
 have HR:=I hR
 have hlen:=hR.1
 have gX:=hR.2.1
 simp only[ar]at hlen
 unfold maxLen at gX
 clear hR
 go_enter Tryz.func140,Tryz.ntmps140
 go_wp2_with (fail)
 go_loopw [5] (fun v wr=>∃m:Nat,v=.int .i64 m/\m<=l.length/\Hid (∀j,j<m->l.getD j ByteArray.empty≠x)/\wr=w) (fun v _=>l.length - (intOf v).toNat)
 case atStart=>exact⟨0,rfl,by omega,fun j hj=>by omega,rfl⟩
 case round =>
  obtain⟨m,rfl,m1,hm,rfl⟩:=hrel
  by_cases h1:m<l.length
  ·
   have hd:decide ((m:Int)<(l.length:Int))=true:=aV
   obtain⟨b1,o1,gb,OZ,dS,jZ,c1⟩:=zO HR.out m h1
   subst gb
   have hw:IntKind.i64.wrap ((m:Int)+1)=(m:Int)+1:=aZ
   by_cases hx:l[m]=x
   ·
    have hRr:Lib.idxOfS l x=m:=by
     have:=Lib.idxFromS_hit x l m 0 h1 (by simp[List.getD,h1,hx]) hm.out
     simpa[Lib.idxOfS]using this
    go_wp2_with (fail)
    all_goals
     go_returns
     exact⟨by rw[hRr];first | done | rfl,rfl⟩
   ·
    have GC:(l[m].toList==x.toList)=false:=by rw[aA];exact fun h=>hx ((Pd _ _).1 h)
    go_wp2_with (fail)
    exact⟨⟨m+1,rfl,h1,fun j hj=>by
     by_cases e:j=m
     ·
      subst e;simpa[List.getD,h1]using hx
     ·
      exact hm.out j aF,trivial⟩,by simp only[intOf];omega⟩
  ·
   have hd:decide ((m:Int)<(l.length:Int))=false:=aV
   have hRr:Lib.idxOfS l x = -1:=Lib.idxFromS_miss x l 0 fun j hj=>hm.out j aF
   go_wp2_with (fail)
   all_goals
    go_returns
    exact⟨by rw[hRr];first | done | rfl,rfl⟩
theorem qN (l:List cx) (most:Int) (S:Nat->Prop) (w:World) (A:Option Addr) (c:Nat) (hR:Row w S 1 A c (Ct l)) :
  Calls Tryz.prog 102 #[.slice A l.length c,.int .i64 most] w fun e w'=>e=.returned (.bool (l.all gJ&&decide ((l.length:Int)<=most)))/\U w w':=by
 have HR:=I hR
 have hlen:=hR.1
 have gX:=hR.2.1
 simp only[ar]at hlen
 unfold maxLen at gX
 clear hR
 go_enter Tryz.func102,Tryz.ntmps102
 go_wp2_with (fail)
 go_loopw [5] (fun v wr=>∃m:Nat,v=.int .i64 m/\m<=l.length/\Hid (∀j (hj:j<l.length),j<m->gJ l[j]=true)/\U w wr) (fun v _=>l.length - (intOf v).toNat)
 case atStart=>exact⟨0,rfl,by omega,fun j _ hj=>by omega,U.refl _⟩
 case round =>
  obtain⟨m,rfl,m1,hm,dX⟩:=hrel
  by_cases h1:m<l.length
  ·
   have hd:decide ((m:Int)<(l.length:Int))=true:=aV
   obtain⟨b1,o1,gb,OZ,dS,jZ,c1⟩:=zO HR.out m h1
   subst gb
   replace c1:=(dX.box b1 dS _).trans c1
   cases hn:gJ l[m]
   ·
    have HA:=I (show l.all gJ=false from List.all_eq_false.2 ⟨l[m],List.getElem_mem h1,by rw[hn];simp⟩)
    go_wp2_with ((go_at_call 103;refine (nC l[m] _).mono ?_;rintro e w1 ⟨rfl,dE⟩))
    all_goals
     go_returns
     exact⟨by rw[HA.out];simp,bl⟩
   ·
    go_wp2_with ((go_at_call 103;refine (nC l[m] _).mono ?_;rintro e w1 ⟨rfl,dE⟩))
    go_roundw
    case rel=>exact⟨m+1,by go_num,by omega,fun j hj uy=>by
     by_cases e:j=m
     ·
      subst e;exact hn
     ·
      exact hm.out j hj aF,bl⟩
    case measure=>simp[intOf];omega
  ·
   have hd:decide ((m:Int)<(l.length:Int))=false:=aV
   have HA:=I (show l.all gJ=true from List.all_eq_true.2 fun x hx=>by
    obtain⟨k,hk,rfl⟩:=List.mem_iff_getElem.1 hx
    exact hm.out k hk aF)
   go_wp2_with (fail)
   all_goals
    go_returns
    exact⟨by rw[HA.out];simp_all,bl⟩
theorem nB (l:List cx) (S:Nat->Prop) (w:World) (A:Option Addr) (c:Nat) (hR:Row w S 1 A c (Ct l)) (ht:Sp w) :
  Calls Tryz.prog 37 #[.slice A l.length c] w fun e w'=>e=.returned (.bool (l.all gJ))/\U w w':=by
 have HR:=I hR
 have hlen:=hR.1
 have gX:=hR.2.1
 simp only[ar]at hlen
 unfold maxLen at gX
 clear hR
 have HT:=I ht
 clear ht
 go_enter Tryz.func37,Tryz.ntmps37
 go_wp2_with (fail)
 go_loopw [7] (fun v wr=>∃m:Nat,v=.int .i64 m/\m<=l.length/\Hid (∀j (hj:j<l.length),j<m->gJ l[j]=true)/\U w wr) (fun v _=>l.length - (intOf v).toNat)
 case atStart=>exact⟨0,rfl,by omega,fun j _ hj=>by omega,U.refl _⟩
 case round =>
  obtain⟨m,rfl,m1,hm,dX⟩:=hrel
  by_cases h1:m<l.length
  ·
   have hd:decide ((m:Int)<(l.length:Int))=true:=aV
   obtain⟨b1,o1,gb,OZ,dS,jZ,c1⟩:=zO HR.out m h1
   subst gb
   replace c1:=(dX.box b1 dS _).trans c1
   cases hn:gJ l[m]
   ·
    have HA:=I (show l.all gJ=false from List.all_eq_false.2 ⟨l[m],List.getElem_mem h1,by rw[hn];simp⟩)
    go_wp2_with ((go_at_call 94;refine (nA l[m] _ (HT.out.on bl)).mono ?_;rintro e w1 ⟨rfl,dE⟩))
    all_goals
     go_returns
     exact⟨by rw[HA.out];simp,bl⟩
   ·
    go_wp2_with ((go_at_call 94;refine (nA l[m] _ (HT.out.on bl)).mono ?_;rintro e w1 ⟨rfl,dE⟩))
    go_roundw
    case rel=>exact⟨m+1,by go_num,by omega,fun j hj uy=>by
     by_cases e:j=m
     ·
      subst e;exact hn
     ·
      exact hm.out j hj aF,bl⟩
    case measure=>simp[intOf];omega
  ·
   have hd:decide ((m:Int)<(l.length:Int))=false:=aV
   have HA:=I (show l.all gJ=true from List.all_eq_true.2 fun x hx=>by
    obtain⟨k,hk,rfl⟩:=List.mem_iff_getElem.1 hx
    exact hm.out k hk aF)
   go_wp2_with (fail)
   all_goals
    go_returns
    exact⟨by rw[HA.out];rfl,bl⟩
theorem zP (l:List cx) (S:Nat->Prop) (w:World) (A:Option Addr) (c:Nat) (hR:Row w S 1 A c (Ct l)) :
  Calls Tryz.prog 104 #[.slice A l.length c] w fun e w'=>e=.returned (.bool (qk l))/\U w w':=by
 have HR:=I hR
 have hlen:=hR.1
 have gX:=hR.2.1
 simp only[ar]at hlen
 unfold maxLen at gX
 clear hR
 go_enter Tryz.func104,Tryz.ntmps104
 go_wp2_with (fail)
 go_loopw [3] (fun v wr=>∃m:Nat,v=.int .i64 m/\m<=l.length/\Hid (∀j (hj:j<l.length),j<m->Lib.containsS (l.take j) l[j]=false)/\U w wr) (fun v _=>l.length - (intOf v).toNat)
 case atStart=>exact⟨0,rfl,by omega,fun j _ hj=>by omega,U.refl _⟩
 case round =>
  obtain⟨m,rfl,m1,hm,dX⟩:=hrel
  by_cases h1:m<l.length
  ·
   have hd:decide ((m:Int)<(l.length:Int))=true:=aV
   obtain⟨b1,o1,gb,OZ,dS,jZ,c1⟩:=zO HR.out m h1
   subst gb
   replace c1:=(dX.box b1 dS _).trans c1
   have HI:=I (Cu h1)
   cases hn:Lib.containsS (l.take m) l[m]
   ·
    have Gk:decide (Lib.idxOfS l l[m]<(m:Int))=false:=HI.out.trans hn
    go_wp2_with ((go_at_call 140;refine (Cv l l[m] S _ _ _ (Row.de bl HR.out)).mono ?_;rintro e w' ⟨rfl,rfl⟩))
    go_roundw
    case rel=>exact⟨m+1,by go_num,by omega,fun j hj uy=>by
     by_cases e:j=m
     ·
      subst e;exact hn
     ·
      exact hm.out j hj aF,bl⟩
    case measure=>simp[intOf];omega
   ·
    have Gk:decide (Lib.idxOfS l l[m]<(m:Int))=true:=HI.out.trans hn
    have HA:=I (Eg m h1 hn)
    go_wp2_with ((go_at_call 140;refine (Cv l l[m] S _ _ _ (Row.de bl HR.out)).mono ?_;rintro e w' ⟨rfl,rfl⟩))
    all_goals
     go_returns
     exact⟨by rw[HA.out];first | done | rfl,bl⟩
  ·
   have hd:decide ((m:Int)<(l.length:Int))=false:=aV
   have HA:=I (Il (l:=l) fun k hk=>hm.out k hk aF)
   go_wp2_with (fail)
   all_goals
    go_returns
    exact⟨by rw[HA.out];first | done | rfl,bl⟩
theorem yB (l:List cx) (S:Nat->Prop) (w:World) (A:Option Addr) (c:Nat) (hR:Row w S 1 A c (Ct l)) :
  Calls Tryz.prog 95 #[.slice A l.length c] w fun e w'=>e=.returned (.bool (qk l))/\U w w':=by
 have HR:=I hR
 have hlen:=hR.1
 have gX:=hR.2.1
 simp only[ar]at hlen
 unfold maxLen at gX
 clear hR
 go_enter Tryz.func95,Tryz.ntmps95
 go_wp2_with (fail)
 go_loopw [6] (fun v wr=>∃m:Nat,v=.int .i64 m/\m<=l.length/\Hid (∀j (hj:j<l.length),j<m->Lib.containsS (l.take j) l[j]=false)/\U w wr) (fun v _=>l.length - (intOf v).toNat)
 case atStart=>exact⟨0,rfl,by omega,fun j _ hj=>by omega,U.refl _⟩
 case round =>
  obtain⟨m,rfl,m1,hm,dX⟩:=hrel
  by_cases h1:m<l.length
  ·
   have hd:decide ((m:Int)<(l.length:Int))=true:=aV
   obtain⟨b1,o1,gb,OZ,dS,jZ,c1⟩:=zO HR.out m h1
   subst gb
   replace c1:=(dX.box b1 dS _).trans c1
   have HI:=I (Cu h1)
   cases hn:Lib.containsS (l.take m) l[m]
   ·
    have Gk:decide (Lib.idxOfS l l[m]<(m:Int))=false:=HI.out.trans hn
    go_wp2_with (fail)
    have hsl:=fun wx=>zQ (b:=b1) (o:=o1) (len:=l.length) (c:=c) (m:=m) aF wx
    have HCQ:=I (fun (wx:World) (hx:U w wx)=>(by have:=vN l m l[m] S wx (some ⟨b1,o1,none⟩) c c (Row.de hx HR.out) aF;rw[hn]at this;exact this))
    go_quiet ((go_at_call 130;exact Gs (HCQ.out _ bl)))
    go_wp2_with (fail)
    go_roundw
    case rel=>exact⟨m+1,by go_num,by omega,fun j hj uy=>by
     by_cases e:j=m
     ·
      subst e;exact hn
     ·
      exact hm.out j hj aF,bl⟩
    case measure=>simp[intOf];omega
   ·
    have Gk:decide (Lib.idxOfS l l[m]<(m:Int))=true:=HI.out.trans hn
    have HA:=I (Eg m h1 hn)
    go_wp2_with (fail)
    have hsl:=fun wx=>zQ (b:=b1) (o:=o1) (len:=l.length) (c:=c) (m:=m) aF wx
    have HCQ:=I (fun (wx:World) (hx:U w wx)=>(by have:=vN l m l[m] S wx (some ⟨b1,o1,none⟩) c c (Row.de hx HR.out) aF;rw[hn]at this;exact this))
    go_quiet ((go_at_call 130;exact Gs (HCQ.out _ bl)))
    go_wp2_with (fail)
    all_goals
     go_returns
     exact⟨by rw[HA.out];first | done | rfl,bl⟩
  ·
   have hd:decide ((m:Int)<(l.length:Int))=false:=aV
   have HA:=I (Il (l:=l) fun k hk=>hm.out k hk aF)
   go_wp2_with (fail)
   all_goals
    go_returns
    exact⟨by rw[HA.out];first | done | rfl,bl⟩
def cv (w:World) (S:Nat->Prop) (q:Nat) (t:O):Prop:=q<w.heap.size/\∃vs,Y.cA w S t.D vs/\∀j,j<13->w.cell? ⟨q,j,none⟩=vs[j]?
theorem cv.de {w w':World} {S:Nat->Prop} {q:Nat} {t:O} (hb:U w w') (h:cv w S q t):cv w' S q t:=by
 obtain⟨hq,vs,hv,hc⟩:=h
 exact⟨au hq hb.size,vs,hv.de hb,fun j hj=>(hb.box q hq j).trans (hc j hj)⟩
theorem cv.cells {w:World} {S:Nat->Prop} {q:Nat} {x0:List cx} {x1:List cw} {x2:List cr} {x3:List R} {x4:cx} {x5:Int} {x6:List cx} {x7:List cx} {x8:List cV} {x9:Bool} {F:Int} {G:Int} {Z:Int} (h:cv w S q (.mk x0 x1 x2 x3 x4 x5 x6 x7 x8 x9 F G Z)) :
  ∃A0 c0 A1 c1 A2 c2 A3 c3 A6 c6 A7 c7 A8 c8,q<w.heap.size/\w.cell? ⟨q,0,none⟩=some (.slice A0 x0.length c0)/\w.cell? ⟨q,1,none⟩=some (.slice A1 x1.length c1)/\w.cell? ⟨q,2,none⟩=some (.slice A2 x2.length c2)/\w.cell? ⟨q,3,none⟩=some (.slice A3 x3.length c3)/\w.cell? ⟨q,4,none⟩=some (.string x4)/\w.cell? ⟨q,5,none⟩=some (.int .i64 x5)/\w.cell? ⟨q,6,none⟩=some (.slice A6 x6.length c6)/\w.cell? ⟨q,7,none⟩=some (.slice A7 x7.length c7)/\w.cell? ⟨q,8,none⟩=some (.slice A8 x8.length c8)/\w.cell? ⟨q,9,none⟩=some (.bool x9)/\w.cell? ⟨q,10,none⟩=some (.int .i64 F)/\w.cell? ⟨q,11,none⟩=some (.int .i64 G)/\w.cell? ⟨q,12,none⟩=some (.int .i64 Z)/\Row w S 1 A0 c0 (x0.map fun x=>[.str x])/\Row w S 3 A1 c1 (x1.map cw.D)/\Row w S 5 A2 c2 (x2.map cr.D)/\Row w S 6 A3 c3 (x3.map R.D)/\x4.size<=maxLen/\dT x5/\Row w S 1 A6 c6 (x6.map fun x=>[.str x])/\Row w S 1 A7 c7 (x7.map fun x=>[.str x])/\Row w S 2 A8 c8 (x8.map cV.D)/\dT F/\dT G/\dT Z:=by
 obtain⟨hq,vs,hv,hc⟩:=h
 obtain⟨A0,c0,A1,c1,A2,c2,A3,c3,A6,c6,A7,c7,A8,c8,rfl,g0,g1,g2,g3,g4,g5,g6,g7,g8,-,g10,g11,g12⟩:=O.gK hv
 exact⟨_,_,_,_,_,_,_,_,_,_,_,_,_,_,hq,hc 0 aI,hc 1 aI,hc 2 aI,hc 3 aI,hc 4 aI,hc 5 aI,hc 6 aI,hc 7 aI,hc 8 aI,hc 9 aI,hc 10 aI,hc 11 aI,hc 12 aI,g0,g1,g2,g3,g4,g5,g6,g7,g8,g10,g11,g12⟩
theorem cv.j8 {w:World} {S:Nat->Prop} {q:Nat} {x0:List cx} {x1:List cw} {x2:List cr} {x3:List R} {x4:cx} {x5:Int} {x6:List cx} {x7:List cx} {x8:List cV} {x9:Bool} {F:Int} {G:Int} {Z:Int} (h:cv w S q (.mk x0 x1 x2 x3 x4 x5 x6 x7 x8 x9 F G Z)) :
 ∃A0 c0 A1 c1 A2 c2 A3 c3 A6 c6 A7 c7 A8 c8,q<w.heap.size/\w.cell? ⟨q,0,none⟩=some (.slice A0 x0.length c0)/\w.cell? ⟨q,1,none⟩=some (.slice A1 x1.length c1)/\w.cell? ⟨q,2,none⟩=some (.slice A2 x2.length c2)/\w.cell? ⟨q,3,none⟩=some (.slice A3 x3.length c3)/\w.cell? ⟨q,4,none⟩=some (.string x4)/\w.cell? ⟨q,5,none⟩=some (.int .i64 x5)/\w.cell? ⟨q,6,none⟩=some (.slice A6 x6.length c6)/\w.cell? ⟨q,7,none⟩=some (.slice A7 x7.length c7)/\w.cell? ⟨q,8,none⟩=some (.slice A8 x8.length c8)/\w.cell? ⟨q,9,none⟩=some (.bool x9)/\w.cell? ⟨q,10,none⟩=some (.int .i64 F)/\w.cell? ⟨q,11,none⟩=some (.int .i64 G)/\w.cell? ⟨q,12,none⟩=some (.int .i64 Z)/\x0.length<=c0/\c0<=2 ^ 63 - 1/\x1.length<=c1/\c1<=2 ^ 63 - 1/\x2.length<=c2/\c2<=2 ^ 63 - 1/\x3.length<=c3/\c3<=2 ^ 63 - 1/\x6.length<=c6/\c6<=2 ^ 63 - 1/\x7.length<=c7/\c7<=2 ^ 63 - 1/\x8.length<=c8/\c8<=2 ^ 63 - 1/\x4.size<=2 ^ 63 - 1/\dT x5/\dT F/\dT G/\dT Z/\Hid (Row w S 1 A0 c0 (x0.map fun x=>[.str x]))/\Hid (Row w S 3 A1 c1 (x1.map cw.D))/\Hid (Row w S 5 A2 c2 (x2.map cr.D))/\Hid (Row w S 6 A3 c3 (x3.map R.D))/\Hid (Row w S 1 A6 c6 (x6.map fun x=>[.str x]))/\Hid (Row w S 1 A7 c7 (x7.map fun x=>[.str x]))/\Hid (Row w S 2 A8 c8 (x8.map cV.D)):=by
 obtain⟨A0,c0,A1,c1,A2,c2,A3,c3,A6,c6,A7,c7,A8,c8,hq,e0,e1,e2,e3,e4,e5,e6,e7,e8,e9,iE,jc,jd,g0,g1,g2,g3,g4,g5,g6,g7,g8,g10,g11,g12⟩:=cv.cells h
 have XW:=g0.1
 have DG:=g0.2.1
 simp only[ar]at XW
 unfold maxLen at DG
 have dS:=g1.1
 have XX:=g1.2.1
 simp only[ar]at dS
 unfold maxLen at XX
 have mu:=g2.1
 have qw:=g2.2.1
 simp only[ar]at mu
 unfold maxLen at qw
 have yN:=g3.1
 have vD:=g3.2.1
 simp only[ar]at yN
 unfold maxLen at vD
 have D1:=g6.1
 have WQ:=g6.2.1
 simp only[ar]at D1
 unfold maxLen at WQ
 have hl7:=g7.1
 have hm7:=g7.2.1
 simp only[ar]at hl7
 unfold maxLen at hm7
 have hl8:=g8.1
 have hm8:=g8.2.1
 simp only[ar]at hl8
 unfold maxLen at hm8
 unfold maxLen at g4
 exact⟨_,_,_,_,_,_,_,_,_,_,_,_,_,_,hq,e0,e1,e2,e3,e4,e5,e6,e7,e8,e9,iE,jc,jd,XW,DG,dS,XX,mu,qw,yN,vD,D1,WQ,hl7,hm7,hl8,hm8,g4,g5,g10,g11,g12,I g0,I g1,I g2,I g3,I g6,I g7,I g8⟩
theorem cv.zF {w:World} {S:Nat->Prop} {t:O} {vs:List Value} {cur:Array Value} {E:TypeId} (hv:Y.cA w S t.D vs) (hc:cur=vs.toArray):cv (w.alloc (.cells cur E)) S w.heap.size t:=by
 subst hc
 have hl:=hv.length
 rw[O.xW]at hl
 refine⟨by simp,vs,hv.de (U.alloc (U.refl w) _),fun j hj=>?_⟩
 rw[World.cell?_alloc_mark]
 simp
def R.v:R->cC
 | .mk k n i t lo hi=>⟨k,n,i,t,lo,hi⟩
theorem R.Df (k n i:Int) (t:cx) (lo hi:Int):(R.mk k n i t lo hi).v=⟨k,n,i,t,lo,hi⟩:=rfl
def cr.kind:cr->Int | .mk k _ _ _ _=>k
def cr.tag:cr->Int | .mk _ t _ _ _=>t
def cr.fC:cr->Int | .mk _ _ s _ _=>s
def cr.items:cr->List R | .mk _ _ _ i _=>i
def cr.keys:cr->List R | .mk _ _ _ _ k=>k
def cw.name:cw->cx | .mk n _ _=>n
def cw.fields:cw->List cx | .mk _ f _=>f
def cw.line:cw->Int | .mk _ _ l=>l
def cV.FY:cV->Int | .mk r _=>r
def cV.frame:cV->Int | .mk _ f=>f
def O.names:O->List cx | .mk x0 _ _ _ _ _ _ _ _ _ _ _ _=>x0
def O.records:O->List cw | .mk _ x1 _ _ _ _ _ _ _ _ _ _ _=>x1
def O.objects:O->List cr | .mk _ _ x2 _ _ _ _ _ _ _ _ _ _=>x2
def O.globals:O->List R | .mk _ _ _ x3 _ _ _ _ _ _ _ _ _=>x3
def O.uB:O->cx | .mk _ _ _ _ x4 _ _ _ _ _ _ _ _=>x4
def O.position:O->Int | .mk _ _ _ _ _ x5 _ _ _ _ _ _ _=>x5
def O.output:O->List cx | .mk _ _ _ _ _ _ x6 _ _ _ _ _ _=>x6
def O.pa:O->List cV | .mk _ _ _ _ _ _ _ _ x8 _ _ _ _=>x8
def O.Zh:O->Int | .mk _ _ _ _ _ _ _ _ _ _ F _ _=>F
def O.J9:O->Int | .mk _ _ _ _ _ _ _ _ _ _ _ G _=>G
def O.made:O->Int | .mk _ _ _ _ _ _ _ _ _ _ _ _ Z=>Z
theorem O.jH {x0:List cx} {x1:List cw} {x2:List cr} {x3:List R} {x4:cx} {x5:Int} {x6:List cx} {x7:List cx} {x8:List cV} {x9:Bool} {F:Int} {G:Int} {Z:Int}:(O.mk x0 x1 x2 x3 x4 x5 x6 x7 x8 x9 F G Z).names=x0:=rfl
theorem O.cu {x0:List cx} {x1:List cw} {x2:List cr} {x3:List R} {x4:cx} {x5:Int} {x6:List cx} {x7:List cx} {x8:List cV} {x9:Bool} {F:Int} {G:Int} {Z:Int}:(O.mk x0 x1 x2 x3 x4 x5 x6 x7 x8 x9 F G Z).records=x1:=rfl
theorem O.gd {x0:List cx} {x1:List cw} {x2:List cr} {x3:List R} {x4:cx} {x5:Int} {x6:List cx} {x7:List cx} {x8:List cV} {x9:Bool} {F:Int} {G:Int} {Z:Int}:(O.mk x0 x1 x2 x3 x4 x5 x6 x7 x8 x9 F G Z).objects=x2:=rfl
theorem O.fy {x0:List cx} {x1:List cw} {x2:List cr} {x3:List R} {x4:cx} {x5:Int} {x6:List cx} {x7:List cx} {x8:List cV} {x9:Bool} {F:Int} {G:Int} {Z:Int}:(O.mk x0 x1 x2 x3 x4 x5 x6 x7 x8 x9 F G Z).globals=x3:=rfl
theorem O.cy {x0:List cx} {x1:List cw} {x2:List cr} {x3:List R} {x4:cx} {x5:Int} {x6:List cx} {x7:List cx} {x8:List cV} {x9:Bool} {F:Int} {G:Int} {Z:Int}:(O.mk x0 x1 x2 x3 x4 x5 x6 x7 x8 x9 F G Z).made=Z:=rfl
def dP (k:Int):Int :=
 if k=4\/k=15 then 2 else if k=5 then 3 else if k=6 then 4 else if k=7\/k=16 then 5 else if k=11 then 6 else if k=12 then 7 else if k=13\/k=19 then 1 else if k=17 then 8 else if k=20 then 9 else 0
def pJ (s:O) (v:cC):Bool :=
 match s.objects[v.n.toNat]? with
 | some o=>decide (o.kind=dP v.k)&&(if v.k=13\/v.k=16 then decide (v.i<(o.items.length:Int)) else true)
 | none=>false
def eE (s:O) (v:cC):Bool :=
 dD v&&(if dP v.k≠0 then pJ s v
  else if v.k=8 then decide (v.n<(s.names.length:Int)) else if v.k=9 then decide (v.n<=54) else if v.k=10 then decide (v.n<(s.records.length:Int)) else if v.k=14 then decide (v.i<(s.globals.length:Int)) else true)
def gn (s:O) (v:cC):Bool:=decide (v.k<=12)&&eE s v
def fS (s:O) (l:List R):Bool:=l.all fun x=>gn s x.v
def mv (l:List R):Bool:=(List.range l.length).all fun i=>!((l.take i).any fun y=>y.v.pn (l.getD i (.mk 0 0 0 ByteArray.empty 0 0)).v)
def cM (op:Int):List Int :=
 if op=1 then [2] else if 2<=op/\op<=6 then [1] else if 7<=op/\op<=10 then [3] else if op=13 then [12] else if op=18\/op=20 then [13] else if op=14\/op=15 then [12,12] else if op=16\/op=17 then [12,13] else []
def dG (s:O) (kd:Int) (v:cC):Bool:=eE s v&&(if kd=13 then decide (v.k=13\/v.k=14) else decide (v.k=kd))
def sc {α β:Type} (f:α->β->Bool):List α->List β->Bool
 | a :: r,b :: q=>f a b&&sc f r q
 | _,_=>true
def ez (s:O) (op:Int) (items:List R):Bool:=decide (1<=op/\op<=23)&&decide ((cM op).length=items.length)&&sc (fun k x=>dG s k x.v) (cM op) items
def j0 (l:List R) (i:Nat):cC:=(l.getD i (.mk 0 0 0 ByteArray.empty 0 0)).v
def cT (s:O) (o:cr):Bool :=
  (if 2<=o.kind/\o.kind<=7 then decide (1<=o.fC/\o.fC<=s.made) else decide (o.fC=0)) &&
  (if o.kind=1 then decide (o.tag=0)&&decide (o.keys.length=0)&&decide (o.items.length<=24)&&fS s o.items
   else if o.kind=2 then decide (o.tag=0)&&decide (o.keys.length=0)&&decide (o.items.length<=40)&&fS s o.items
   else if o.kind=3 then decide (o.tag=0)&&decide (o.keys.length<=40)&&decide (o.items.length=o.keys.length+1)&&fS s o.items&&fS s o.keys&&mv o.keys
   else if o.kind=4 then decide (o.tag=0)&&decide (o.keys.length<=40)&&decide (o.items.length=0)&&fS s o.keys&&mv o.keys
   else if o.kind=5 then decide (0<=o.tag)&&decide (o.tag<(s.records.length:Int))&&decide (o.keys.length=0)&&decide (o.items.length=(s.records.getD o.tag.toNat (.mk ByteArray.empty [] 0)).fields.length)&&fS s o.items
   else if o.kind=6 then decide (1<=o.tag)&&decide (o.keys.length=0)&&decide (o.items.length=3)&&decide ((j0 o.items 0).k=19)&&decide ((j0 o.items 1).k=19)&&decide ((j0 o.items 2).k=1)&&decide (0<=(j0 o.items 2).n)&&eE s (j0 o.items 0)&&eE s (j0 o.items 1)&&eE s (j0 o.items 2)
   else if o.kind=7 then decide (o.keys.length=0)&&ez s o.tag o.items
   else if o.kind=8 then decide (o.tag=0)&&decide (o.keys.length=0)&&decide (o.items.length=2)&&decide ((j0 o.items 0).k=5)&&eE s (j0 o.items 0)&&gn s (j0 o.items 1)
   else if o.kind=9 then decide (o.tag=0)&&decide (o.keys.length=0)&&decide (o.items.length=2)&&decide ((j0 o.items 0).k=2)&&decide ((j0 o.items 1).k=1)&&eE s (j0 o.items 0)&&eE s (j0 o.items 1)&&decide (1<=(j0 o.items 1).n/\(j0 o.items 1).n<=((j0 o.items 0).t.size:Int)+1)
   else false)
def mZ (r:cw):Bool:=gJ r.name&&r.fields.all gJ&&decide (r.fields.length<=6) && !qk r.fields&&decide (0<=r.line)
def tP (s:O) (a:cV):Bool:=decide (0<=a.FY/\a.FY<(s.names.length:Int))&&decide (0<=a.frame/\a.frame<(s.objects.length:Int))&&(match s.objects[a.frame.toNat]? with | some o=>decide (o.kind=1) | none=>false)
def C7 (l:List Int):Bool:=(List.range l.length).all fun i=>decide (l.getD i 0=0) || !((l.take i).any fun y=>decide (y=l.getD i 0))
def sX (s:O):Bool :=
 decide (s.names.length<=12)&&decide (s.records.length<=8)&&decide (s.globals.length<=12)&&decide (s.uB.size<=120)&&decide (1<=s.position/\s.position<=(s.uB.size:Int)+1)&&decide (s.pa.length<=40)&&decide (0<=s.made)&&decide (0<=s.J9/\s.J9<=4000)&&decide (0<=s.Zh/\s.Zh<=s.J9)&&s.names.all gJ
def eP (s:O):Bool :=
 sX s&&s.records.all mZ&&s.output.all (fun x=>decide (x.size<=120))&&s.pa.all (tP s)&&s.objects.all (cT s)&&C7 (s.objects.map cr.fC)&&fS s s.globals
def sY:O:=.mk [] [] [] [] ByteArray.empty 0 [] [] [] false 0 0 0
def nS:cr:=.mk 0 0 0 [] []
def WR (m:Int):Int:=IntKind.i64.wrap (m+1)
abbrev lO (f:FuncId) (s:O) (ob:cr):Prop:=∀(S S':Nat->Prop) (q:Nat) (w:World) (vs:List Value),cv w S q s->Y.cA w S' ob.D vs ->
 Calls Tryz.prog f #[.pointer (some ⟨q,0,none⟩),.agg vs.toArray] w fun e w'=>e=.returned (.bool (cT s ob))/\U w w'
theorem cJ (a:R) (r:List R):j0 (a :: r) 0=a.v:=rfl
theorem cL (a b:R) (r:List R):j0 (a :: b :: r) 1=b.v:=rfl
theorem cP (a b c:R) (r:List R):j0 (a :: b :: c :: r) 2=c.v:=rfl
theorem kN (s:O) (tag J:Int) (its keys:List R):cT s (.mk 1 tag J its keys)=(decide (J=0)&&(decide (tag=0)&&decide (keys.length=0)&&decide (its.length<=24)&&fS s its)):=by
 first | rfl | kernel_rfl
theorem kq (s:O) (tag J:Int) (its keys:List R):cT s (.mk 2 tag J its keys)=(decide (1<=J/\J<=s.made)&&(decide (tag=0)&&decide (keys.length=0)&&decide (its.length<=40)&&fS s its)):=by
 first | rfl | kernel_rfl
theorem im (s:O) (tag J:Int) (its keys:List R):cT s (.mk 3 tag J its keys)=(decide (1<=J/\J<=s.made)&&(decide (tag=0)&&decide (keys.length<=40)&&decide (its.length=keys.length+1)&&fS s its&&fS s keys&&mv keys)):=by
 first | rfl | kernel_rfl
theorem jK (s:O) (tag J:Int) (its keys:List R):cT s (.mk 4 tag J its keys)=(decide (1<=J/\J<=s.made)&&(decide (tag=0)&&decide (keys.length<=40)&&decide (its.length=0)&&fS s keys&&mv keys)):=by
 first | rfl | kernel_rfl
theorem oT (s:O) (tag J:Int) (its keys:List R):cT s (.mk 5 tag J its keys)=(decide (1<=J/\J<=s.made)&&(decide (0<=tag)&&decide (tag<(s.records.length:Int))&&decide (keys.length=0)&&decide (its.length=(s.records.getD tag.toNat (.mk ByteArray.empty [] 0)).fields.length)&&fS s its)):=by
 first | rfl | kernel_rfl
theorem eT (s:O) (tag J:Int) (its keys:List R):cT s (.mk 6 tag J its keys)=(decide (1<=J/\J<=s.made)&&(decide (1<=tag)&&decide (keys.length=0)&&decide (its.length=3)&&decide ((j0 its 0).k=19)&&decide ((j0 its 1).k=19)&&decide ((j0 its 2).k=1)&&decide (0<=(j0 its 2).n)&&eE s (j0 its 0)&&eE s (j0 its 1)&&eE s (j0 its 2))):=by
 first | rfl | kernel_rfl
theorem rq (s:O) (tag J:Int) (its keys:List R):cT s (.mk 7 tag J its keys)=(decide (1<=J/\J<=s.made)&&(decide (keys.length=0)&&ez s tag its)):=by
 first | rfl | kernel_rfl
theorem jE (s:O) (tag J:Int) (its keys:List R):cT s (.mk 8 tag J its keys)=(decide (J=0)&&(decide (tag=0)&&decide (keys.length=0)&&decide (its.length=2)&&decide ((j0 its 0).k=5)&&eE s (j0 its 0)&&gn s (j0 its 1))):=by
 first | rfl | kernel_rfl
theorem iD (s:O) (tag J:Int) (its keys:List R):cT s (.mk 9 tag J its keys)=(decide (J=0)&&(decide (tag=0)&&decide (keys.length=0)&&decide (its.length=2)&&decide ((j0 its 0).k=2)&&decide ((j0 its 1).k=1)&&eE s (j0 its 0)&&eE s (j0 its 1)&&decide (1<=(j0 its 1).n/\(j0 its 1).n<=((j0 its 0).t.size:Int)+1))):=by
 first | rfl | kernel_rfl
theorem Hn (s:O) (kd tag J:Int) (its keys:List R) (h:kd<1\/9<kd):cT s (.mk kd tag J its keys)=false:=by
 unfold cT;simp only[cr.kind,cr.tag,cr.fC,cr.items,cr.keys]
 have h1:¬kd=1:=aF
 have h2:¬kd=2:=aF
 have h3:¬kd=3:=aF
 have h4:¬kd=4:=aF
 have h5:¬kd=5:=aF
 have h6:¬kd=6:=aF
 have h7:¬kd=7:=aF
 have h8:¬kd=8:=aF
 have h9:¬kd=9:=aF
 simp only[h1,h2,h3,h4,h5,h6,h7,h8,h9,if_false,Bool.and_false]
theorem pg (s:O) (tag J:Int) (its keys:List R) (fs:List cx) (h:(s.records.getD tag.toNat (.mk ByteArray.empty [] 0)).fields=fs):cT s (.mk 5 tag J its keys)=(decide (1<=J/\J<=s.made)&&(decide (0<=tag)&&decide (tag<(s.records.length:Int))&&decide (keys.length=0)&&decide (its.length=fs.length)&&fS s its)):=by
 subst h;exact oT s tag J its keys
theorem yF (s:O) (a b:R):fS s [a,b]=(gn s a.v&&gn s b.v):=by simp[fS]
theorem Wh {s:O} {a b:R} (h:fS s [a,b]=true):gn s b.v=true:=by rw[yF,Bool.and_eq_true]at h;exact h.2
theorem Hz {s:O} {a b:R} (h:fS s [a,b]=true):eE s b.v=true:=by rw[yF,Bool.and_eq_true]at h;have:=h.2;unfold gn at this;rw[Bool.and_eq_true]at this;exact this.2
theorem yz {s:O} {a b:R} (h:fS s [a,b]=true):eE s a.v=true:=by rw[yF,Bool.and_eq_true]at h;have:=h.1;unfold gn at this;rw[Bool.and_eq_true]at this;exact this.2
theorem F4 {s:O} {v:cC} (h:v.k<=12):gn s v=eE s v:=by unfold gn;rw[ay h];rfl
theorem Ob (s:O) (tag J:Int) (a b:R) (keys:List R) (ha:a.v.k=5) (h:fS s [a,b]=false):cT s (.mk 8 tag J [a,b] keys)=false:=by
 rw[yF,F4 (v:=a.v) aF]at h
 rw[jE]
 simp only[cJ,cL]
 cases h1:eE s a.v
 ·
  simp
 ·
  rw[h1]at h
  have h2:gn s b.v=false:=bR
  rw[h2]
  simp
theorem NW (s:O) (tag J:Int) (a b:R) (keys:List R) (ha:a.v.k=2) (hb:b.v.k=1) (h:fS s [a,b]=false):cT s (.mk 9 tag J [a,b] keys)=false:=by
 rw[yF,F4 (v:=a.v) aF,F4 (v:=b.v) aF]at h
 rw[iD]
 simp only[cJ,cL]
 cases h1:eE s a.v
 ·
  simp
 ·
  rw[h1]at h
  have h2:eE s b.v=false:=bR
  rw[h2]
  simp
theorem gB {s:O} (h:sX s=false):eP s=false:=by unfold eP;rw[h];rfl
theorem Sh {s:O} (h:¬(s.records.all mZ&&decide (s.records.length<=8))=true):eP s=false:=by
 by_cases h8:s.records.length<=8
 ·
  rw[ay h8,Bool.and_true]at h
  unfold eP
  rw[Bool.eq_false_iff.2 h]
  simp
 ·
  exact gB (by unfold sX;rw[ax h8];simp)
theorem Wo {s:O} (m:Nat) (hm:m<s.records.length) (h:mZ s.records[m]=false):eP s=false:=by
 unfold eP;rw[show s.records.all mZ=false from List.all_eq_false.2 ⟨_,List.getElem_mem hm,by rw[h];simp⟩];simp
theorem Lf {s:O} (m:Nat) (hm:m<s.output.length) (h:120<s.output[m].size):eP s=false:=by
 unfold eP;rw[show s.output.all (fun x=>decide (x.size<=120))=false from List.all_eq_false.2 ⟨_,List.getElem_mem hm,by simp;omega⟩];simp
theorem uC {s:O} (m:Nat) (hm:m<s.pa.length) (h:tP s s.pa[m]=false):eP s=false:=by
 unfold eP;rw[show s.pa.all (tP s)=false from List.all_eq_false.2 ⟨_,List.getElem_mem hm,by rw[h];simp⟩];simp
theorem Fx {s:O} (m:Nat) (hm:m<s.objects.length) (h:cT s s.objects[m]=false):eP s=false:=by
 unfold eP;rw[show s.objects.all (cT s)=false from List.all_eq_false.2 ⟨_,List.getElem_mem hm,by rw[h];simp⟩];simp
theorem Sq {l:List Int} (i k:Nat) (hi:i<l.length) (hk:k<i) (h0:l[i]≠0) (h:l[k]' aF=l[i]):C7 l=false:=by
 unfold C7
 refine List.all_eq_false.2 ⟨i,List.mem_range.2 hi,?_⟩
 rw[show l.getD i 0=l[i] by simp[List.getD,hi]]
 have:((l.take i).any fun y=>decide (y=l[i]))=true:=List.any_eq_true.2 ⟨l[k]' aF,List.mem_iff_getElem.2 ⟨k,by simp;omega,by simp⟩,by simp[h]⟩
 rw[this,ax h0]
 simp
theorem Sr {l:List Int} (h:∀i (hi:i<l.length) k (hk:k<i),l[i]=0\/l[k]' aF≠l[i]):C7 l=true:=by
 unfold C7
 refine List.all_eq_true.2 fun i hi=>?_
 have AF:=List.mem_range.1 hi
 rw[show l.getD i 0=l[i] by simp[List.getD,AF]]
 by_cases h0:l[i]=0
 ·
  rw[ay h0];rfl
 ·
  have:((l.take i).any fun y=>decide (y=l[i]))=false:=List.any_eq_false.2 fun y hy=>by
   obtain⟨k,hk,rfl⟩:=List.mem_iff_getElem.1 hy
   rw[List.getElem_take]
   rcases h i AF k (by simp at hk;omega)with h1 | h1
   ·
    exact absurd h1 h0
   ·
    simpa using h1
  rw[this]
  simp
theorem Lh {s:O} (h:C7 (s.objects.map cr.fC)=false):eP s=false:=by unfold eP;rw[h];simp
theorem Lg {s:O} (h:fS s s.globals=false):eP s=false:=by unfold eP;rw[h];simp
theorem yC {α:Type} {f:α->Bool} {l:List α} (h:∀j (hj:j<l.length),f l[j]=true):l.all f=true:=List.all_eq_true.2 fun x hx=>by
 obtain⟨k,hk,rfl⟩:=List.mem_iff_getElem.1 hx
 exact h k hk
theorem Li {s:O} (h1:sX s=true) (h2:∀j (hj:j<s.records.length),mZ s.records[j]=true) (h3:∀j (hj:j<s.output.length),s.output[j].size<=120) (h4:∀j (hj:j<s.pa.length),tP s s.pa[j]=true)
  (h5:∀j (hj:j<s.objects.length),cT s s.objects[j]=true) (h6:C7 (s.objects.map cr.fC)=true) (h7:fS s s.globals=true):eP s=true:=by
 unfold eP
 rw[h1,yC h2,yC (f:=fun x:cx=>decide (x.size<=120)) (fun j hj=>by simpa using h3 j hj),yC h4,yC h5,h6,h7]
 rfl
abbrev amr (f:FuncId) (s:O):Prop:=∀(S:Nat->Prop) (w:World) (vs:List Value),Y.cA w S s.D vs->Calls Tryz.prog f #[.agg vs.toArray] w fun e w'=>e=.returned (.bool (eP s))/\U w w'
theorem iy {x0:List cx} {x1:List cw} {x2:List cr} {x3:List R} {x4:cx} {x5:Int} {x6:List cx} {x7:List cx} {x8:List cV} {x9:Bool} {F:Int} {G:Int} {Z:Int}:sX (O.mk x0 x1 x2 x3 x4 x5 x6 x7 x8 x9 F G Z)=(decide (x0.length<=12)&&decide (x1.length<=8)&&decide (x3.length<=12)&&decide (x4.size<=120)&&decide (1<=x5/\x5<=(x4.size:Int)+1)&&decide (x8.length<=40)&&decide (0<=Z)&&decide (0<=G/\G<=4000)&&decide (0<=F/\F<=G)&&x0.all gJ):=rfl
def U7 (w : World) : Prop := Lib.TabIs Tryz.prog w "internal/strconv.uint64pow10" .u64 Lib.pow10Tab
theorem U7.on {w w':World} (h:U7 w) (hb:U w w'):U7 w':=Joins.tab_stays (g:=2) aG h hb (Nat.le_refl _)
def Sy (w:World):Prop:=Sp w/\U7 w
theorem Wp {W : World} (h : laidMetH Tryz.prog [("math/bits.deBruijn32tab", Rows.laid_math_bits_deBruijn32tab), ("math/bits.deBruijn64tab", Rows.laid_math_bits_deBruijn64tab), ("internal/strconv.uint64pow10", Rows.laid_internal_strconv_uint64pow10), ("unicode.White_Space", Rows.laid_unicode_White_Space), ("strings.asciiSpace", Rows.laid_strings_asciiSpace)] W) : Sy W := by
 have h : laidMet Tryz.prog [("math/bits.deBruijn32tab", Rows.laid_math_bits_deBruijn32tab), ("math/bits.deBruijn64tab", Rows.laid_math_bits_deBruijn64tab), ("internal/strconv.uint64pow10", Rows.laid_internal_strconv_uint64pow10), ("unicode.White_Space", Rows.laid_unicode_White_Space), ("strings.asciiSpace", Rows.laid_strings_asciiSpace)] W := h
 refine⟨?_,?_⟩
 ·
  exact Lib.tabIs_of_head (g:=0) (t:=175) (e:=5) (n:=256) (rest:=[]) aG aG Tryz.underlying175 Tryz.underlying5 aG aG h.tail.tail.tail.tail
 ·
  exact Lib.tabIs_of_head (g := 2) (t := 190) (e := 172) (n := 20) (rest := [("unicode.White_Space", Rows.laid_unicode_White_Space), ("strings.asciiSpace", Rows.laid_strings_asciiSpace)]) aG aG Tryz.underlying190 Tryz.underlying172 aG aG h.tail.tail
theorem Sy.on {w w':World} (h:Sy w) (hb:U w w'):Sy w':=⟨h.1.on hb,h.2.on hb⟩
end Go.Proofs.YtjngkknbpfgdcaaGreatDoor
