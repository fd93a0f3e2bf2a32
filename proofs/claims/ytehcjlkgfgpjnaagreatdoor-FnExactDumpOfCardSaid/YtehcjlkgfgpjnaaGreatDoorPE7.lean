/- FormatInt of the reference. -/
import Derived.Test.YtehcjlkgfgpjnaaGreatDoorPr
import Derived.Test.YtehcjlkgfgpjnaaGreatDoorPShelf
import Derived.Test.YtehcjlkgfgpjnaaGreatDoorPB
import Derived.Laws.IdiomStrings
import Derived.Lib.BufferRead
import Derived.Deep.Cut
import Derived.Deep.AppendLies
import Derived.Laws.BitsAllLaws
namespace Go.Proofs.YtehcjlkgfgpjnaaGreatDoor
set_option linter.unusedVariables false
set_option linter.unusedSimpArgs false
set_option maxRecDepth 100000
open Go.RowKit
def natD (m:Nat):List UInt8:=if m=0 then [] else Lib.decDigits m
theorem natD_step {m:Nat} (h:m≠0):natD m=natD (m / 10)++[UInt8.ofNat (48+m % 10)]:=by
 unfold natD
 rw[if_neg h]
 by_cases h1:m<10
 ·
  rw[Lib.decDigits_one h1,if_pos (by omega),show m % 10=m by omega];rfl
 ·
  rw[if_neg (by omega)]
  rw[Lib.decDigits,dif_neg h1]
theorem nDig_le:∀(k u:Nat),u<10 ^ (k+1)→Lib.nDigits u≤k+1
 | 0,u,h=>by rw[Lib.nDigits_small (by simpa using h)];omega
 | k+1,u,h=>by
  by_cases h1:u<10
  ·
   rw[Lib.nDigits_small h1];omega
  ·
   rw[Lib.nDigits_big h1]
   have:=nDig_le k (u / 10) (by rw[Nat.div_lt_iff_lt_mul (by omega),←Nat.pow_succ];exact h)
   omega
set_option maxHeartbeats 2000000 in
theorem specFormatInt_any (n:Int) (w:World) (hn:InI n) :
  Calls Tryz.prog 125 #[.int .i64 n] w fun e w'=>e=.returned (.string ⟨(Lib.itoa n).toArray⟩)∧Bel w w':=by
 unfold InI at hn
 by_cases h0:n=0
 ·
  subst h0
  rw[show (⟨(Lib.itoa 0).toArray⟩:ByteArray)=⟨#[48]⟩ by decide +kernel]
  go_enter Tryz.func125,Tryz.ntmps125
  go_wp2
  all_goals
   go_returns
   exact⟨rfl,bl⟩
 ·
  have hlen:(Lib.decDigits n.natAbs).length≤20:=by
   rw[Lib.decDigits_length]
   exact nDig_le 19 _ (by omega)
  go_enter Tryz.func125,Tryz.ntmps125
  go_wp2_with (fail)
  go_loopw [0,4] (fun v o wr=>∃(m:Int) (t:ByteArray),v=.int .i64 m∧o=.string t∧InI m∧Hid (natD m.natAbs++t.data.toList=Lib.decDigits n.natAbs)∧t.size≤20∧Bel w wr) (fun v _ _=>(intOf v).natAbs)
  case atStart=>exact⟨n,ByteArray.empty,rfl,rfl,hn,by unfold natD;rw[if_neg (by omega)];exact List.append_nil _,by decide,bl⟩
  case round =>
   obtain⟨m,t,rfl,rfl,hm,hE,ht,hbw⟩:=hrel
   unfold InI at hm
   by_cases hz:m=0
   ·
    subst hz
    have hE0:t.data.toList=Lib.decDigits n.natAbs:=hE.out
    have hT:t=⟨(Lib.decDigits n.natAbs).toArray⟩:=by rw[←hE0]
    by_cases hs:n<0
    ·
     have hR:(⟨(Lib.itoa n).toArray⟩:ByteArray)=(⟨#[45]⟩:ByteArray)++t:=by
      rw[hT]
      unfold Lib.itoa
      rw[if_pos hs]
      apply ByteArray.ext
      simp
     exact rk220
    ·
     have hR:(⟨(Lib.itoa n).toArray⟩:ByteArray)=t:=by
      rw[hT]
      unfold Lib.itoa
      rw[if_neg hs,show n.natAbs=n.toNat by omega]
     exact rk220
   ·
    have hq:(m.tdiv 10).natAbs=m.natAbs / 10:=Int.natAbs_tdiv m 10
    have hr:(m.tmod 10).natAbs=m.natAbs % 10:=Int.natAbs_tmod m 10
    have hw1:IntKind.i64.wrap (m.tdiv 10)=m.tdiv 10:=by rw[IntKind.wrap_i64] <;> omega
    have hw2:IntKind.i64.wrap (m.tmod 10)=m.tmod 10:=by rw[IntKind.wrap_i64] <;> omega
    have hcv:∀d:Int,d=((m.natAbs % 10:Nat):Int)→(convert 43 9 (.slice (some ⟨wr.heap.size,0,none⟩) 1 1)).run Tryz.prog (wr.alloc (.cells #[.int .u8 (48+d)] 5))=.ok (.string ⟨#[UInt8.ofNat (48+m.natAbs % 10)]⟩) (wr.alloc (.cells #[.int .u8 (48+d)] 5)):=by
     intro d hd
     refine run_convert_bytes_back (P:=Tryz.prog) (wr.alloc (.cells #[.int .u8 (48+d)] 5)) _ _ 5 ⟨wr.heap.size,0,none⟩ 1 [UInt8.ofNat (48+m.natAbs % 10)] Tryz.underlying43 Tryz.underlying5 Tryz.underlying9 (fun j hj=>?_)
     obtain rfl:j=0:=by simpa using hj
     rw[show (⟨wr.heap.size,0,none⟩:Addr).add 0=⟨wr.heap.size,0,none⟩from rfl,World.cell?_alloc_mark,hd]
     simp only[List.getElem?_toArray,List.getElem?_cons_zero,List.getElem_cons_zero,Option.some.injEq,Value.int.injEq,true_and]
     rw[UInt8.toNat_ofNat']
     omega
    have hE2:natD (m.tdiv 10).natAbs++((⟨#[UInt8.ofNat (48+m.natAbs % 10)]⟩:ByteArray)++t).data.toList=Lib.decDigits n.natAbs:=by
     rw[hq,←hE.out,natD_step (show m.natAbs≠0 by omega)]
     simp
    have ht2:((⟨#[UInt8.ofNat (48+m.natAbs % 10)]⟩:ByteArray)++t).size≤20:=by
     have h1:=congrArg List.length hE.out
     rw[natD_step (show m.natAbs≠0 by omega),List.length_append,List.length_append,List.length_singleton]at h1
     have h2:t.data.toList.length=t.size:=Array.length_toList
     rw[ByteArray.size_append]
     have h3:(⟨#[UInt8.ofNat (48+m.natAbs % 10)]⟩:ByteArray).size=1:=rfl
     omega
    obtain⟨x,hx⟩:∃x,UInt8.ofNat (48+m.natAbs % 10)=x:=⟨_,rfl⟩
    simp only[hx]at hcv hE2 ht2
    clear hx
    replace hE2:=hide hE2
    by_cases hs:m.tmod 10<0
    ·
     have hc:=hcv (-m.tmod 10) (by omega)
     exact rk214
    ·
     have hc:=hcv (m.tmod 10) (by omega)
     exact rk214
end Go.Proofs.YtehcjlkgfgpjnaaGreatDoor
namespace Go.Proofs.YtehcjlkgfgpjnaaGreatDoor
set_option linter.unusedVariables false
set_option linter.unusedSimpArgs false
set_option maxRecDepth 100000
open Go.RowKit
open Go.Sort in
theorem bel_itoa (w:World) (q:Nat) (os:Array Obj):Bel w (grow (w.drewN q) os) :=
 ⟨rfl,rfl,rfl,by simp[grow],fun i hi=>by
  show ((w.drewN q).heap++os)[i]?=_
  rw[Array.getElem?_append_left (by show i<w.heap.size;omega)]
  rfl⟩
theorem implFormatInt_any (n:Int) (w:World) (hn:InI n) (ht:P10 w) :
  Calls Tryz.prog 80 #[.int .i64 n] w fun e w'=>e=.returned (.string ⟨(Lib.itoa n).toArray⟩)∧Bel w w':=by
 have hI:=Tryz.strconv_Itoa n hn.1 hn.2 w ht
 go_enter Tryz.func80,Tryz.ntmps80
 go_wp2_with (go_at_call 119;refine hI.mono ?_;rintro e w1 ⟨rfl,k,os,hw1⟩;have hb1:Bel w w1:=(by rw[hw1];exact bel_itoa w k os);clear hw1)
 all_goals
  go_returns
  exact⟨rfl,bl⟩
end Go.Proofs.YtehcjlkgfgpjnaaGreatDoor
namespace Go.Proofs.YtehcjlkgfgpjnaaGreatDoor
set_option linter.unusedVariables false
set_option linter.unusedSimpArgs false
set_option maxRecDepth 100000
open Go.RowKit
def ByL (L:List Nat):List Value:=L.map fun (x:Nat)=>Value.int .u8 (x:Int)
def txt (L:List Nat):ByteArray:=⟨(L.map UInt8.ofNat).toArray⟩
theorem txt_size (L:List Nat):(txt L).size=L.length:=by unfold txt;simp[ByteArray.size]
theorem infoQ8:(Tryz.prog.info? 5).map (fun i=>(i.zero,i.size,i.bytes))=some (some (.int .u8 0),1,1):=by kernel_rfl
theorem bytes_text (L:List Nat) (hL:∀x∈L,x<256) (wr:World) (base:Nat) (v:Value) (h:wr.ownsRow base 5 1 v L.length (ByL L)) :
  (convert 43 9 v).run Tryz.prog wr=.ok (.string (txt L)) wr:=by
 have h':=h
 rcases h.2 with⟨rfl,h0⟩ | ⟨g,cap,cur,rfl,hg⟩
 ·
  obtain rfl:L=[]:=List.length_eq_zero_iff.1 h0
  rw[Lib.run_convert_nil_bytes wr 43 9 5 0 Tryz.underlying43 Tryz.underlying5 Tryz.underlying9]
  rfl
 ·
  have hB:=run_convert_bytes_back (P:=Tryz.prog) wr 43 9 5 ⟨g,0,none⟩ cap (L.map UInt8.ofNat) Tryz.underlying43 Tryz.underlying5 Tryz.underlying9 (fun j hj=>by
   have hj2:j<L.length:=by simpa using hj
   rw[h'.cells rfl j (.int .u8 (L[j]:Int)) (by simp[ByL,hj2])]
   have:=hL L[j] (List.getElem_mem hj2)
   rw[List.getElem_map,UInt8.toNat_ofNat']
   congr 2
   omega)
  rw[List.length_map]at hB
  exact hB
theorem own_belQ {w w':World} {base:Nat} {e:TypeId} {size n:Nat} {v:Value} {xs:List Value} (h:w.ownsRow base e size v n xs) (hb:Bel w w'):w'.ownsRow base e size v n xs:=by
 refine⟨h.1,?_⟩
 rcases h.2 with hn | ⟨g,cap,cur,rfl,hbg,hg,r⟩
 ·
  exact .inl hn
 ·
  have hl:g<w.heap.size:=by
   rcases Nat.lt_or_ge g w.heap.size with h' | h'
   ·
    exact h'
   ·
    rw[Array.getElem?_eq_none h']at hg;cases hg
  exact .inr ⟨g,cap,cur,rfl,hbg,(Below.block hb g hl).trans hg,r⟩
theorem own_new (w:World) (base:Nat) (e:TypeId) (n:Nat) (cur:Array Value) (hb:base≤w.heap.size) (hn:cur.size=n) (hm:n≤maxLen):(w.alloc (.cells cur e)).ownsRow base e 1 (.slice (some ⟨w.heap.size,0,none⟩) n n) n cur.toList :=
 ⟨by simp[hn],.inr ⟨w.heap.size,n,cur,rfl,hb,heap_alloc_new w _,Nat.le_refl _,hm,by simp[hn],by rw[List.take_of_length_le (by simp[hn])]⟩⟩
def hexd (x:Nat):Nat:=if x<10 then 48+x else 87+x
def escB (q b:Nat):List Nat:=if b=q∨b=92 then [92,b] else if b=10 then [92,110] else if b=9 then [92,116] else if b<32∨126<b then [92,120,hexd (b / 16),hexd (b % 16)] else [b]
theorem escB_len (q b:Nat):(escB q b).length≤4:=by unfold escB;(repeat' split) <;> simp
theorem escB_lt (q b:Nat) (hq:q<256) (hb:b<256):∀x∈escB q b,x<256:=by
 intro x hx
 unfold escB hexd at hx
 split at hx
 ·
  simp at hx;omega
 ·
  split at hx
  ·
   simp at hx;omega
  ·
   split at hx
   ·
    simp at hx;omega
   ·
    split at hx
    ·
     simp at hx
     rcases hx with rfl | rfl | rfl | rfl
     ·
      omega
     ·
      omega
     ·
      split <;> omega
     ·
      split <;> omega
    ·
     simp at hx;omega
def qtL (q:Nat) (s:ByteArray):Nat→List Nat
 | 0=>[q]
 | k+1=>qtL q s k++escB q (byteAt s k)
theorem qtL_len (q:Nat) (s:ByteArray):∀k,(qtL q s k).length≤1+4*k
 | 0=>by simp[qtL]
 | k+1=>by
  have:=qtL_len q s k
  have:=escB_len q (byteAt s k)
  simp only[qtL,List.length_append]
  omega
theorem qtL_lt (q:Nat) (s:ByteArray) (hq:q<256):∀k,∀x∈qtL q s k,x<256
 | 0=>by simp[qtL,hq]
 | k+1=>by
  intro x hx
  simp only[qtL,List.mem_append]at hx
  rcases hx with hx | hx
  ·
   exact qtL_lt q s hq k x hx
  ·
   exact escB_lt q _ hq (byteAt_lt s k) x hx
def qt (q:Nat) (s:ByteArray):ByteArray:=txt (qtL q s s.size++[q])
theorem qt_size (q:Nat) (s:ByteArray):(qt q s).size≤2+4*s.size:=by
 have:=qtL_len q s s.size
 unfold qt
 rw[txt_size,List.length_append]
 simp
 omega
theorem ByL_append (a b:List Nat):ByL (a++b)=ByL a++ByL b:=by simp[ByL]
set_option maxHeartbeats 400000 in
theorem l4Hex_any (x:Nat) (w:World) (hx:x<16):Calls Tryz.prog 158 #[.int .i64 (x:Int)] w fun e w'=>e=.returned (.int .u8 (hexd x:Nat))∧w=w':=by
 by_cases h:x<10
 ·
  have hd:decide ((x:Int)<10)=true:=by simp;omega
  have hw:IntKind.u8.wrap (48+(x:Int))=48+x:=by rw[IntKind.wrap_u8];omega
  go_enter Tryz.func158,Tryz.ntmps158
  go_wp2
  all_goals
   go_returns
   exact⟨by unfold hexd;rw[if_pos h];rfl,rfl⟩
 ·
  have hd:decide ((x:Int)<10)=false:=by simp;omega
  have hw:IntKind.u8.wrap (87+(x:Int))=87+x:=by rw[IntKind.wrap_u8];omega
  go_enter Tryz.func158,Tryz.ntmps158
  go_wp2
  all_goals
   go_returns
   exact⟨by unfold hexd;rw[if_neg h];rfl,rfl⟩
end Go.Proofs.YtehcjlkgfgpjnaaGreatDoor
namespace Go.Proofs.YtehcjlkgfgpjnaaGreatDoor
set_option linter.unusedVariables false
set_option linter.unusedSimpArgs false
set_option maxRecDepth 100000
open Go.RowKit
theorem digN (n:Nat) (h1:n<16):∀h,((⟨#[48,49,50,51,52,53,54,55,56,57,97,98,99,100,101,102]⟩:ByteArray)[n]'h).toNat=hexd n:=by
 have:∀y:Fin 16,∀h,((⟨#[48,49,50,51,52,53,54,55,56,57,97,98,99,100,101,102]⟩:ByteArray)[y.val]'h).toNat=hexd y.val:=by decide +kernel
 exact this ⟨n,h1⟩
theorem and15 (x:Nat) (h:x<256):bits .and .u8 (x:Int) 15=((x:Int) % 16):=by
 have:∀y:Fin 256,bits .and .u8 (y.val:Int) 15=((y.val:Int) % 16):=by decide +kernel
 exact this ⟨x,h⟩
theorem qtL_step (q:Nat) (s:ByteArray) (k:Nat):qtL q s (k+1)=qtL q s k++escB q (byteAt s k):=rfl
set_option maxHeartbeats 4000000 in
theorem l4Quote_any (s:ByteArray) (q:Nat) (w:World) (hq:q<256) (hs:s.size≤300000000) :
  Calls Tryz.prog 146 #[.string s,.int .u8 q] w fun e w'=>e=.returned (.string (qt q s))∧Bel w w':=by
 obtain⟨i0,hi0,iz0,iz1,iz2⟩:=info_parts infoQ8
 go_enter Tryz.func146,Tryz.ntmps146
 go_wp2_with (fail)
 go_loopw [5,6,7] (fun v i _ wr=>∃k:Nat,i=.int .i64 k∧k≤s.size∧wr.ownsRow w.heap.size 5 1 v (qtL q s k).length (ByL (qtL q s k))∧Bel w wr) (fun _ i _ _=>s.size - (intOf i).toNat)
 case atStart=>exact⟨0,rfl,by omega,own_new w _ _ 1 #[.int .u8 q] (Nat.le_refl _) rfl (by unfold maxLen;omega),bl⟩
 case round =>
  obtain⟨k,rfl,hk,hown,hbw⟩:=hrel
  have hql:=qtL_len q s k
  by_cases h:k<s.size
  ·
   have hd:decide ((k:Int)<(s.size:Int))=true:=by simp;omega
   have hB:=byteAt_eq s k h
   have hbl:=byteAt_lt s k
   rw[←hB]at hbl
   have HBt:=hide hB
   clear hB
   rcases (show s[k].toNat=q∨(¬s[k].toNat=q∧s[k].toNat=92)∨(¬s[k].toNat=q∧¬s[k].toNat=92∧s[k].toNat=10)∨(¬s[k].toNat=q∧¬s[k].toNat=92∧¬s[k].toNat=10∧s[k].toNat=9)∨(¬s[k].toNat=q∧¬s[k].toNat=92∧¬s[k].toNat=10∧¬s[k].toNat=9∧s[k].toNat<32)∨(¬s[k].toNat=q∧¬s[k].toNat=92∧¬s[k].toNat=10∧¬s[k].toNat=9∧126<s[k].toNat)∨(¬s[k].toNat=q∧¬s[k].toNat=92∧¬s[k].toNat=10∧¬s[k].toNat=9∧32≤s[k].toNat∧s[k].toNat≤126) by omega)with hc | hc | hc | hc | hc | hc | hc
   ·
    have HE:Hid (escB q (byteAt s k)=[92,byteAt s k]):=by show _=_;rw[←HBt.out];unfold escB;rw[if_pos (by omega)]
    have f1:((s[k].toNat:Int)==(q:Int))=true:=by simp[hc]
    clear hc
    go_wp2_with (at_builtin;(go_loud (refine wpList_append_own _ rfl _ _ 43 rfl w.heap.size 5 i0 (.int .u8 0) 1 1 Tryz.underlying43 hi0 iz0 iz1 iz2 rfl (by decide) _ _ _ rfl (hown.alloc _) ⟨wr.heap.size,0,none⟩ 2 2 [.int .u8 92,.int .u8 (s[k].toNat:Int)] rfl rfl ?c1 ?c2 ?c3 ?c4 ?c5 ?_)))
    case c1 =>
     exact rk121
    case c2=>intro u hu;simp at hu;rcases hu with rfl | rfl <;> rfl
    case c3=>have:=qtL_len q s k;unfold maxLen;omega
    case c4=>have:=qtL_len q s k;omega
    case c5=>have:=hbw.size;simp;omega
    exact rk78
   ·
    have HE:Hid (escB q (byteAt s k)=[92,byteAt s k]):=by show _=_;rw[←HBt.out];unfold escB;rw[if_pos (by omega)]
    have f1:((s[k].toNat:Int)==(q:Int))=false:=by simp;omega
    have f2:((s[k].toNat:Int)==92)=true:=by simp;omega
    clear hc
    go_wp2_with (at_builtin;(go_loud (refine wpList_append_own _ rfl _ _ 43 rfl w.heap.size 5 i0 (.int .u8 0) 1 1 Tryz.underlying43 hi0 iz0 iz1 iz2 rfl (by decide) _ _ _ rfl (hown.alloc _) ⟨wr.heap.size,0,none⟩ 2 2 [.int .u8 92,.int .u8 (s[k].toNat:Int)] rfl rfl ?c1 ?c2 ?c3 ?c4 ?c5 ?_)))
    case c1 =>
     exact rk121
    case c2=>intro u hu;simp at hu;rcases hu with rfl | rfl <;> rfl
    case c3=>have:=qtL_len q s k;unfold maxLen;omega
    case c4=>have:=qtL_len q s k;omega
    case c5=>have:=hbw.size;simp;omega
    exact rk78
   ·
    have HE:Hid (escB q (byteAt s k)=[92,110]):=by show _=_;rw[←HBt.out];unfold escB;rw[if_neg (by omega),if_pos (by omega)]
    have f1:((s[k].toNat:Int)==(q:Int))=false:=by simp;omega
    have f2:((s[k].toNat:Int)==92)=false:=by simp;omega
    have f3:((s[k].toNat:Int)==10)=true:=by simp;omega
    clear hc
    go_wp2_with (at_builtin;(go_loud (refine wpList_append_own _ rfl _ _ 43 rfl w.heap.size 5 i0 (.int .u8 0) 1 1 Tryz.underlying43 hi0 iz0 iz1 iz2 rfl (by decide) _ _ _ rfl (hown.alloc _) ⟨wr.heap.size,0,none⟩ 2 2 [.int .u8 92,.int .u8 110] rfl rfl ?c1 ?c2 ?c3 ?c4 ?c5 ?_)))
    case c1 =>
     exact rk121
    case c2=>intro u hu;simp at hu;rcases hu with rfl | rfl <;> rfl
    case c3=>have:=qtL_len q s k;unfold maxLen;omega
    case c4=>have:=qtL_len q s k;omega
    case c5=>have:=hbw.size;simp;omega
    exact rk78
   ·
    have HE:Hid (escB q (byteAt s k)=[92,116]):=by show _=_;rw[←HBt.out];unfold escB;rw[if_neg (by omega),if_neg (by omega),if_pos (by omega)]
    have f1:((s[k].toNat:Int)==(q:Int))=false:=by simp;omega
    have f2:((s[k].toNat:Int)==92)=false:=by simp;omega
    have f3:((s[k].toNat:Int)==10)=false:=by simp;omega
    have f4:((s[k].toNat:Int)==9)=true:=by simp;omega
    clear hc
    go_wp2_with (at_builtin;(go_loud (refine wpList_append_own _ rfl _ _ 43 rfl w.heap.size 5 i0 (.int .u8 0) 1 1 Tryz.underlying43 hi0 iz0 iz1 iz2 rfl (by decide) _ _ _ rfl (hown.alloc _) ⟨wr.heap.size,0,none⟩ 2 2 [.int .u8 92,.int .u8 116] rfl rfl ?c1 ?c2 ?c3 ?c4 ?c5 ?_)))
    case c1 =>
     exact rk121
    case c2=>intro u hu;simp at hu;rcases hu with rfl | rfl <;> rfl
    case c3=>have:=qtL_len q s k;unfold maxLen;omega
    case c4=>have:=qtL_len q s k;omega
    case c5=>have:=hbw.size;simp;omega
    exact rk78
   ·
    have HE:Hid (escB q (byteAt s k)=[92,120,hexd (byteAt s k / 16),hexd (byteAt s k % 16)]):=by show _=_;rw[←HBt.out];unfold escB;rw[if_neg (by omega),if_neg (by omega),if_neg (by omega),if_pos (by omega)]
    have f1:((s[k].toNat:Int)==(q:Int))=false:=by simp;omega
    have f2:((s[k].toNat:Int)==92)=false:=by simp;omega
    have f3:((s[k].toNat:Int)==10)=false:=by simp;omega
    have f4:((s[k].toNat:Int)==9)=false:=by simp;omega
    have f5:decide ((s[k].toNat:Int)<32)=true:=by simp;omega
    clear hc
    go_wp2_with (fail)
    rw[show ((s[k].toNat:Int) / 16)=((s[k].toNat / 16:Nat):Int)from by omega]
    refine (l4Hex_any _ _ (by omega)).mono ?_
    rintro e w' ⟨rfl,rfl⟩
    go_wp2_with (fail)
    rw[show ((s[k].toNat:Int) % 16)=((s[k].toNat % 16:Nat):Int)from by omega]
    refine (l4Hex_any _ _ (by omega)).mono ?_
    rintro e w' ⟨rfl,rfl⟩
    go_wp2_with (at_builtin;(go_loud (refine wpList_append_own _ rfl _ _ 43 rfl w.heap.size 5 i0 (.int .u8 0) 1 1 Tryz.underlying43 hi0 iz0 iz1 iz2 rfl (by decide) _ _ _ rfl (hown.alloc _) ⟨wr.heap.size,0,none⟩ 4 4 [.int .u8 92,.int .u8 120,.int .u8 (hexd (s[k].toNat / 16):Nat),.int .u8 (hexd (s[k].toNat % 16):Nat)] rfl rfl ?c1 ?c2 ?c3 ?c4 ?c5 ?_)))
    case c1 =>
     exact rk200
    case c2=>intro u hu;simp at hu;rcases hu with rfl | rfl | rfl | rfl <;> rfl
    case c3=>have:=qtL_len q s k;unfold maxLen;omega
    case c4=>have:=qtL_len q s k;omega
    case c5=>have:=hbw.size;simp;omega
    exact rk78
   ·
    have HE:Hid (escB q (byteAt s k)=[92,120,hexd (byteAt s k / 16),hexd (byteAt s k % 16)]):=by show _=_;rw[←HBt.out];unfold escB;rw[if_neg (by omega),if_neg (by omega),if_neg (by omega),if_pos (by omega)]
    have f1:((s[k].toNat:Int)==(q:Int))=false:=by simp;omega
    have f2:((s[k].toNat:Int)==92)=false:=by simp;omega
    have f3:((s[k].toNat:Int)==10)=false:=by simp;omega
    have f4:((s[k].toNat:Int)==9)=false:=by simp;omega
    have f5:decide ((s[k].toNat:Int)<32)=false:=by simp;omega
    have f6:decide (126<(s[k].toNat:Int))=true:=by simp;omega
    clear hc
    go_wp2_with (fail)
    rw[show ((s[k].toNat:Int) / 16)=((s[k].toNat / 16:Nat):Int)from by omega]
    refine (l4Hex_any _ _ (by omega)).mono ?_
    rintro e w' ⟨rfl,rfl⟩
    go_wp2_with (fail)
    rw[show ((s[k].toNat:Int) % 16)=((s[k].toNat % 16:Nat):Int)from by omega]
    refine (l4Hex_any _ _ (by omega)).mono ?_
    rintro e w' ⟨rfl,rfl⟩
    go_wp2_with (at_builtin;(go_loud (refine wpList_append_own _ rfl _ _ 43 rfl w.heap.size 5 i0 (.int .u8 0) 1 1 Tryz.underlying43 hi0 iz0 iz1 iz2 rfl (by decide) _ _ _ rfl (hown.alloc _) ⟨wr.heap.size,0,none⟩ 4 4 [.int .u8 92,.int .u8 120,.int .u8 (hexd (s[k].toNat / 16):Nat),.int .u8 (hexd (s[k].toNat % 16):Nat)] rfl rfl ?c1 ?c2 ?c3 ?c4 ?c5 ?_)))
    case c1 =>
     exact rk200
    case c2=>intro u hu;simp at hu;rcases hu with rfl | rfl | rfl | rfl <;> rfl
    case c3=>have:=qtL_len q s k;unfold maxLen;omega
    case c4=>have:=qtL_len q s k;omega
    case c5=>have:=hbw.size;simp;omega
    exact rk78
   ·
    have HE:Hid (escB q (byteAt s k)=[byteAt s k]):=by show _=_;rw[←HBt.out];unfold escB;rw[if_neg (by omega),if_neg (by omega),if_neg (by omega),if_neg (by omega)]
    have f1:((s[k].toNat:Int)==(q:Int))=false:=by simp;omega
    have f2:((s[k].toNat:Int)==92)=false:=by simp;omega
    have f3:((s[k].toNat:Int)==10)=false:=by simp;omega
    have f4:((s[k].toNat:Int)==9)=false:=by simp;omega
    have f5:decide ((s[k].toNat:Int)<32)=false:=by simp;omega
    have f6:decide (126<(s[k].toNat:Int))=false:=by simp;omega
    clear hc
    go_wp2_with (at_builtin;(go_loud (refine wpList_append_own _ rfl _ _ 43 rfl w.heap.size 5 i0 (.int .u8 0) 1 1 Tryz.underlying43 hi0 iz0 iz1 iz2 rfl (by decide) _ _ _ rfl (hown.alloc _) ⟨wr.heap.size,0,none⟩ 1 1 [.int .u8 (s[k].toNat:Int)] rfl rfl ?c1 ?c2 ?c3 ?c4 ?c5 ?_)))
    case c1 =>
     intro j u hj
     match j,hj with
     | 0,hj=>simp at hj;subst hj;simp[Addr.add]
    case c2=>intro u hu;simp at hu;subst hu;rfl
    case c3=>have:=qtL_len q s k;unfold maxLen;omega
    case c4=>have:=qtL_len q s k;omega
    case c5=>have:=hbw.size;simp;omega
    exact rk78
  ·
   exact rk115
set_option maxHeartbeats 4000000 in
theorem quoteWith_any (s:ByteArray) (q:Nat) (w:World) (hq:q<256) (hs:s.size≤300000000) :
  Calls Tryz.prog 120 #[.string s,.int .u8 q] w fun e w'=>e=.returned (.string (qt q s))∧Bel w w':=by
 obtain⟨i0,hi0,iz0,iz1,iz2⟩:=info_parts infoQ8
 go_enter Tryz.func120,Tryz.ntmps120
 go_wp2_with (fail)
 go_loopw [5,6,7] (fun v i _ wr=>∃k:Nat,i=.int .i64 k∧k≤s.size∧wr.ownsRow w.heap.size 5 1 v (qtL q s k).length (ByL (qtL q s k))∧Bel w wr) (fun _ i _ _=>s.size - (intOf i).toNat)
 case atStart=>exact⟨0,rfl,by omega,own_new w _ _ 1 #[.int .u8 q] (Nat.le_refl _) rfl (by unfold maxLen;omega),bl⟩
 case round =>
  obtain⟨k,rfl,hk,hown,hbw⟩:=hrel
  have hql:=qtL_len q s k
  by_cases h:k<s.size
  ·
   have hd:decide ((k:Int)<(s.size:Int))=true:=by simp;omega
   have hB:=byteAt_eq s k h
   have hbl:=byteAt_lt s k
   rw[←hB]at hbl
   have HBt:=hide hB
   clear hB
   rcases (show s[k].toNat=q∨(¬s[k].toNat=q∧s[k].toNat=92)∨(¬s[k].toNat=q∧¬s[k].toNat=92∧s[k].toNat=10)∨(¬s[k].toNat=q∧¬s[k].toNat=92∧¬s[k].toNat=10∧s[k].toNat=9)∨(¬s[k].toNat=q∧¬s[k].toNat=92∧¬s[k].toNat=10∧¬s[k].toNat=9∧s[k].toNat<32)∨(¬s[k].toNat=q∧¬s[k].toNat=92∧¬s[k].toNat=10∧¬s[k].toNat=9∧126<s[k].toNat)∨(¬s[k].toNat=q∧¬s[k].toNat=92∧¬s[k].toNat=10∧¬s[k].toNat=9∧32≤s[k].toNat∧s[k].toNat≤126) by omega)with hc | hc | hc | hc | hc | hc | hc
   ·
    have HE:Hid (escB q (byteAt s k)=[92,byteAt s k]):=by show _=_;rw[←HBt.out];unfold escB;rw[if_pos (by omega)]
    have f1:((s[k].toNat:Int)==(q:Int))=true:=by simp[hc]
    clear hc
    go_wp2_with (at_builtin;(go_loud (refine wpList_append_own _ rfl _ _ 43 rfl w.heap.size 5 i0 (.int .u8 0) 1 1 Tryz.underlying43 hi0 iz0 iz1 iz2 rfl (by decide) _ _ _ rfl (hown.alloc _) ⟨wr.heap.size,0,none⟩ 2 2 [.int .u8 92,.int .u8 (s[k].toNat:Int)] rfl rfl ?c1 ?c2 ?c3 ?c4 ?c5 ?_)))
    case c1 =>
     exact rk121
    case c2=>intro u hu;simp at hu;rcases hu with rfl | rfl <;> rfl
    case c3=>have:=qtL_len q s k;unfold maxLen;omega
    case c4=>have:=qtL_len q s k;omega
    case c5=>have:=hbw.size;simp;omega
    exact rk78
   ·
    have HE:Hid (escB q (byteAt s k)=[92,byteAt s k]):=by show _=_;rw[←HBt.out];unfold escB;rw[if_pos (by omega)]
    have f1:((s[k].toNat:Int)==(q:Int))=false:=by simp;omega
    have f2:((s[k].toNat:Int)==92)=true:=by simp;omega
    clear hc
    go_wp2_with (at_builtin;(go_loud (refine wpList_append_own _ rfl _ _ 43 rfl w.heap.size 5 i0 (.int .u8 0) 1 1 Tryz.underlying43 hi0 iz0 iz1 iz2 rfl (by decide) _ _ _ rfl (hown.alloc _) ⟨wr.heap.size,0,none⟩ 2 2 [.int .u8 92,.int .u8 (s[k].toNat:Int)] rfl rfl ?c1 ?c2 ?c3 ?c4 ?c5 ?_)))
    case c1 =>
     exact rk121
    case c2=>intro u hu;simp at hu;rcases hu with rfl | rfl <;> rfl
    case c3=>have:=qtL_len q s k;unfold maxLen;omega
    case c4=>have:=qtL_len q s k;omega
    case c5=>have:=hbw.size;simp;omega
    exact rk78
   ·
    have HE:Hid (escB q (byteAt s k)=[92,110]):=by show _=_;rw[←HBt.out];unfold escB;rw[if_neg (by omega),if_pos (by omega)]
    have f1:((s[k].toNat:Int)==(q:Int))=false:=by simp;omega
    have f2:((s[k].toNat:Int)==92)=false:=by simp;omega
    have f3:((s[k].toNat:Int)==10)=true:=by simp;omega
    clear hc
    go_wp2_with (at_builtin;(go_loud (refine wpList_append_own _ rfl _ _ 43 rfl w.heap.size 5 i0 (.int .u8 0) 1 1 Tryz.underlying43 hi0 iz0 iz1 iz2 rfl (by decide) _ _ _ rfl (hown.alloc _) ⟨wr.heap.size,0,none⟩ 2 2 [.int .u8 92,.int .u8 110] rfl rfl ?c1 ?c2 ?c3 ?c4 ?c5 ?_)))
    case c1 =>
     exact rk121
    case c2=>intro u hu;simp at hu;rcases hu with rfl | rfl <;> rfl
    case c3=>have:=qtL_len q s k;unfold maxLen;omega
    case c4=>have:=qtL_len q s k;omega
    case c5=>have:=hbw.size;simp;omega
    exact rk78
   ·
    have HE:Hid (escB q (byteAt s k)=[92,116]):=by show _=_;rw[←HBt.out];unfold escB;rw[if_neg (by omega),if_neg (by omega),if_pos (by omega)]
    have f1:((s[k].toNat:Int)==(q:Int))=false:=by simp;omega
    have f2:((s[k].toNat:Int)==92)=false:=by simp;omega
    have f3:((s[k].toNat:Int)==10)=false:=by simp;omega
    have f4:((s[k].toNat:Int)==9)=true:=by simp;omega
    clear hc
    go_wp2_with (at_builtin;(go_loud (refine wpList_append_own _ rfl _ _ 43 rfl w.heap.size 5 i0 (.int .u8 0) 1 1 Tryz.underlying43 hi0 iz0 iz1 iz2 rfl (by decide) _ _ _ rfl (hown.alloc _) ⟨wr.heap.size,0,none⟩ 2 2 [.int .u8 92,.int .u8 116] rfl rfl ?c1 ?c2 ?c3 ?c4 ?c5 ?_)))
    case c1 =>
     exact rk121
    case c2=>intro u hu;simp at hu;rcases hu with rfl | rfl <;> rfl
    case c3=>have:=qtL_len q s k;unfold maxLen;omega
    case c4=>have:=qtL_len q s k;omega
    case c5=>have:=hbw.size;simp;omega
    exact rk78
   ·
    have HE:Hid (escB q (byteAt s k)=[92,120,hexd (byteAt s k / 16),hexd (byteAt s k % 16)]):=by show _=_;rw[←HBt.out];unfold escB;rw[if_neg (by omega),if_neg (by omega),if_neg (by omega),if_pos (by omega)]
    have f1:((s[k].toNat:Int)==(q:Int))=false:=by simp;omega
    have f2:((s[k].toNat:Int)==92)=false:=by simp;omega
    have f3:((s[k].toNat:Int)==10)=false:=by simp;omega
    have f4:((s[k].toNat:Int)==9)=false:=by simp;omega
    have f5:decide ((s[k].toNat:Int)<32)=true:=by simp;omega
    exact rk91
   ·
    have HE:Hid (escB q (byteAt s k)=[92,120,hexd (byteAt s k / 16),hexd (byteAt s k % 16)]):=by show _=_;rw[←HBt.out];unfold escB;rw[if_neg (by omega),if_neg (by omega),if_neg (by omega),if_pos (by omega)]
    have f1:((s[k].toNat:Int)==(q:Int))=false:=by simp;omega
    have f2:((s[k].toNat:Int)==92)=false:=by simp;omega
    have f3:((s[k].toNat:Int)==10)=false:=by simp;omega
    have f4:((s[k].toNat:Int)==9)=false:=by simp;omega
    have f5:decide ((s[k].toNat:Int)<32)=false:=by simp;omega
    have f6:decide (126<(s[k].toNat:Int))=true:=by simp;omega
    exact rk91
   ·
    have HE:Hid (escB q (byteAt s k)=[byteAt s k]):=by show _=_;rw[←HBt.out];unfold escB;rw[if_neg (by omega),if_neg (by omega),if_neg (by omega),if_neg (by omega)]
    have f1:((s[k].toNat:Int)==(q:Int))=false:=by simp;omega
    have f2:((s[k].toNat:Int)==92)=false:=by simp;omega
    have f3:((s[k].toNat:Int)==10)=false:=by simp;omega
    have f4:((s[k].toNat:Int)==9)=false:=by simp;omega
    have f5:decide ((s[k].toNat:Int)<32)=false:=by simp;omega
    have f6:decide (126<(s[k].toNat:Int))=false:=by simp;omega
    clear hc
    go_wp2_with (at_builtin;(go_loud (refine wpList_append_own _ rfl _ _ 43 rfl w.heap.size 5 i0 (.int .u8 0) 1 1 Tryz.underlying43 hi0 iz0 iz1 iz2 rfl (by decide) _ _ _ rfl (hown.alloc _) ⟨wr.heap.size,0,none⟩ 1 1 [.int .u8 (s[k].toNat:Int)] rfl rfl ?c1 ?c2 ?c3 ?c4 ?c5 ?_)))
    case c1 =>
     intro j u hj
     match j,hj with
     | 0,hj=>simp at hj;subst hj;simp[Addr.add]
    case c2=>intro u hu;simp at hu;subst hu;rfl
    case c3=>have:=qtL_len q s k;unfold maxLen;omega
    case c4=>have:=qtL_len q s k;omega
    case c5=>have:=hbw.size;simp;omega
    exact rk78
  ·
   exact rk115
end Go.Proofs.YtehcjlkgfgpjnaaGreatDoor
namespace Go.Proofs.YtehcjlkgfgpjnaaGreatDoor
set_option linter.unusedVariables false
set_option linter.unusedSimpArgs false
set_option maxRecDepth 100000
open Go.RowKit
def bitI (x:Int) (b:Nat):Bool:=(BitVec.ofInt 64 x).getLsbD b
theorem two_pow_le (b:Nat) (h:b<64):1≤2 ^ b∧2 ^ b≤9223372036854775808:=by
 refine⟨Nat.one_le_two_pow,?_⟩
 calc 2 ^ b≤2 ^ 63:=Nat.pow_le_pow_right (by omega) (by omega)
  _=9223372036854775808:=by decide
theorem ofInt_wrap_pow (b:Nat) (h:b<64):BitVec.ofInt 64 (wrap64 (2 ^ b))=BitVec.twoPow 64 b:=by
 apply BitVec.eq_of_toNat_eq
 rw[BitVec.toNat_ofInt,BitVec.toNat_twoPow]
 obtain⟨h1,h2⟩:=two_pow_le b h
 have e:((2:Int) ^ b)=((2 ^ b:Nat):Int):=by simp
 rw[e]
 generalize 2 ^ b=p at *
 unfold wrap64
 omega
theorem bit_and (x:Int) (b:Nat) (h:b<64):(bits .and .i64 x (wrap64 (2 ^ b)) != 0)=bitI x b:=by
 show (IntKind.i64.wrap ((BitVec.ofInt 64 x &&& BitVec.ofInt 64 (wrap64 (2 ^ b))).toNat:Int) != 0)=bitI x b
 rw[ofInt_wrap_pow b h,BitVec.and_twoPow,IntKind.wrap_i64]
 unfold bitI
 obtain⟨h1,h2⟩:=two_pow_le b h
 cases hb:(BitVec.ofInt 64 x).getLsbD b
 ·
  simp
 ·
  simp only[↓reduceIte,BitVec.toNat_twoPow]
  have e:2 ^ b % 2 ^ 64=2 ^ b:=Nat.mod_eq_of_lt (by
   calc 2 ^ b≤9223372036854775808:=h2
    _<2 ^ 64:=by decide)
  rw[e]
  generalize 2 ^ b=p at *
  rw[bne_iff_ne]
  omega
theorem bit_shift (x:Int) (b:Nat) (h:b<64):(bits .and .u64 (IntKind.u64.wrap x / 2 ^ b) 1==1)=bitI x b:=by
 have e0:IntKind.u64.wrap x=((BitVec.ofInt 64 x).toNat:Int):=by
  rw[Go.IntKind.wrap_u64,BitVec.toNat_ofInt]
  omega
 have hlt:=(BitVec.ofInt 64 x).isLt
 have e:((2:Int) ^ b)=((2 ^ b:Nat):Int):=by simp
 rw[e0,e,←Int.natCast_ediv]
 unfold bitI
 rw[BitVec.getLsbD]
 generalize (BitVec.ofInt 64 x).toNat=n at *
 have h3:n / 2 ^ b≤n:=Nat.div_le_self _ _
 have:=u64_and_nat (n / 2 ^ b) 1 (by omega) (by omega)
 rw[show ((1:Nat):Int)=1 from rfl]at this
 rw[this,Nat.and_one_is_mod,Nat.testBit_eq_decide_div_mod_eq]
 generalize n / 2 ^ b % 2=m
 by_cases hm:m=1
 ·
  subst hm;rfl
 ·
  have h1:((m:Int)==1)=false:=by simp;omega
  rw[h1]
  simp[hm]
def hasBit (lo hi:Int) (b:Nat):Bool:=if b<64 then bitI lo b else if b<128 then bitI hi (b - 64) else false
end Go.Proofs.YtehcjlkgfgpjnaaGreatDoor
namespace Go.Proofs.YtehcjlkgfgpjnaaGreatDoor
set_option linter.unusedVariables false
set_option linter.unusedSimpArgs false
set_option maxRecDepth 100000
open Go.RowKit
set_option maxHeartbeats 400000 in
theorem specHasByte_any (lo hi:Int) (b:Nat) (w:World) (hb:b<256) :
  Calls Tryz.prog 159 #[.agg #[.int .i64 lo,.int .i64 hi],.int .u8 b] w fun e w'=>e=.returned (.bool (hasBit lo hi b))∧Bel w w':=by
 have B1:=hide (bit_and lo b)
 have B2:=hide (bit_and hi (b - 64))
 go_enter Tryz.func159,Tryz.ntmps159
 exact rk195
set_option maxHeartbeats 400000 in
theorem implHasByte_any (lo hi:Int) (b:Nat) (w:World) (hb:b<256) :
  Calls Tryz.prog 144 #[.agg #[.int .i64 lo,.int .i64 hi],.int .u8 b] w fun e w'=>e=.returned (.bool (hasBit lo hi b))∧Bel w w':=by
 have B1:=hide (bit_shift lo b)
 have B2:=hide (bit_shift hi (b - 64))
 go_enter Tryz.func144,Tryz.ntmps144
 exact rk195
end Go.Proofs.YtehcjlkgfgpjnaaGreatDoor
