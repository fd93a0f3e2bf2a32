/- FormatInt of the reference. -/
import Derived.Test.YtehcjlkgfgpjnaaGreatDoorPr
import Derived.Test.YtehcjlkgfgpjnaaGreatDoorPShelf
import Derived.Test.YtehcjlkgfgpjnaaGreatDoorPB
import Derived.Laws.IdiomStrings
import Derived.Lib.BufferRead
import Derived.Deep.Cut
import Derived.Deep.AppendLies
import Derived.Test.YtehcjlkgfgpjnaaGreatDoorPF1
namespace Go.Proofs.YtehcjlkgfgpjnaaGreatDoor
set_option linter.unusedVariables false
set_option linter.unusedSimpArgs false
set_option maxRecDepth 100000
open Go.RowKit
open Go.Sort in
theorem bel_itoa (w:World) (q:Nat) (os:Array Obj):Bel w (grow (w.drewN q) os) :=
 ⟨rfl,rfl,rfl,by simp[grow],fun i hi=>by
  show ((w.drewN q).heap++os)[i]?=_
  rw[Array.getElem?_append_left (by show i<w.heap.size;omega)]
  rfl⟩
theorem implFormatInt_any (n:Int) (w:World) (hn:InI n) (ht:P10 w) :
  Calls Tryz.prog 80 #[.int .i64 n] w fun e w'=>e=.returned (.string ⟨(Lib.itoa n).toArray⟩)∧Bel w w':=by
 have hI:=Tryz.strconv_Itoa n hn.1 hn.2 w ht
 go_enter Tryz.func80,Tryz.ntmps80
 go_wp2_with (go_at_call 119;refine hI.mono ?_;rintro e w1 ⟨rfl,k,os,hw1⟩;have hb1:Bel w w1:=(by rw[hw1];exact bel_itoa w k os);clear hw1)
 all_goals
  go_returns
  exact⟨rfl,bl⟩
end Go.Proofs.YtehcjlkgfgpjnaaGreatDoor
namespace Go.Proofs.YtehcjlkgfgpjnaaGreatDoor
set_option linter.unusedVariables false
set_option linter.unusedSimpArgs false
set_option maxRecDepth 100000
open Go.RowKit
def ByL (L:List Nat):List Value:=L.map fun (x:Nat)=>Value.int .u8 (x:Int)
def txt (L:List Nat):ByteArray:=⟨(L.map UInt8.ofNat).toArray⟩
theorem txt_size (L:List Nat):(txt L).size=L.length:=by unfold txt;simp[ByteArray.size]
theorem infoQ8:(Tryz.prog.info? 5).map (fun i=>(i.zero,i.size,i.bytes))=some (some (.int .u8 0),1,1):=by kernel_rfl
theorem bytes_text (L:List Nat) (hL:∀x∈L,x<256) (wr:World) (base:Nat) (v:Value) (h:wr.ownsRow base 5 1 v L.length (ByL L)) :
  (convert 43 9 v).run Tryz.prog wr=.ok (.string (txt L)) wr:=by
 have h':=h
 rcases h.2 with⟨rfl,h0⟩ | ⟨g,cap,cur,rfl,hg⟩
 ·
  obtain rfl:L=[]:=List.length_eq_zero_iff.1 h0
  rw[Lib.run_convert_nil_bytes wr 43 9 5 0 Tryz.underlying43 Tryz.underlying5 Tryz.underlying9]
  rfl
 ·
  have hB:=run_convert_bytes_back (P:=Tryz.prog) wr 43 9 5 ⟨g,0,none⟩ cap (L.map UInt8.ofNat) Tryz.underlying43 Tryz.underlying5 Tryz.underlying9 (fun j hj=>by
   have hj2:j<L.length:=by simpa using hj
   rw[h'.cells rfl j (.int .u8 (L[j]:Int)) (by simp[ByL,hj2])]
   have:=hL L[j] (List.getElem_mem hj2)
   rw[List.getElem_map,UInt8.toNat_ofNat']
   congr 2
   omega)
  rw[List.length_map]at hB
  exact hB
theorem own_belQ {w w':World} {base:Nat} {e:TypeId} {size n:Nat} {v:Value} {xs:List Value} (h:w.ownsRow base e size v n xs) (hb:Bel w w'):w'.ownsRow base e size v n xs:=by
 refine⟨h.1,?_⟩
 rcases h.2 with hn | ⟨g,cap,cur,rfl,hbg,hg,r⟩
 ·
  exact .inl hn
 ·
  have hl:g<w.heap.size:=by
   rcases Nat.lt_or_ge g w.heap.size with h' | h'
   ·
    exact h'
   ·
    rw[Array.getElem?_eq_none h']at hg;cases hg
  exact .inr ⟨g,cap,cur,rfl,hbg,(Below.block hb g hl).trans hg,r⟩
theorem own_new (w:World) (base:Nat) (e:TypeId) (n:Nat) (cur:Array Value) (hb:base≤w.heap.size) (hn:cur.size=n) (hm:n≤maxLen):(w.alloc (.cells cur e)).ownsRow base e 1 (.slice (some ⟨w.heap.size,0,none⟩) n n) n cur.toList :=
 ⟨by simp[hn],.inr ⟨w.heap.size,n,cur,rfl,hb,heap_alloc_new w _,Nat.le_refl _,hm,by simp[hn],by rw[List.take_of_length_le (by simp[hn])]⟩⟩
def hexd (x:Nat):Nat:=if x<10 then 48+x else 87+x
def escB (q b:Nat):List Nat:=if b=q∨b=92 then [92,b] else if b=10 then [92,110] else if b=9 then [92,116] else if b<32∨126<b then [92,120,hexd (b / 16),hexd (b % 16)] else [b]
theorem escB_len (q b:Nat):(escB q b).length≤4:=by unfold escB;(repeat' split) <;> simp
theorem escB_lt (q b:Nat) (hq:q<256) (hb:b<256):∀x∈escB q b,x<256:=by
 intro x hx
 unfold escB hexd at hx
 split at hx
 ·
  simp at hx;omega
 ·
  split at hx
  ·
   simp at hx;omega
  ·
   split at hx
   ·
    simp at hx;omega
   ·
    split at hx
    ·
     simp at hx
     rcases hx with rfl | rfl | rfl | rfl
     ·
      omega
     ·
      omega
     ·
      split <;> omega
     ·
      split <;> omega
    ·
     simp at hx;omega
def qtL (q:Nat) (s:ByteArray):Nat→List Nat
 | 0=>[q]
 | k+1=>qtL q s k++escB q (byteAt s k)
theorem qtL_len (q:Nat) (s:ByteArray):∀k,(qtL q s k).length≤1+4*k
 | 0=>by simp[qtL]
 | k+1=>by
  have:=qtL_len q s k
  have:=escB_len q (byteAt s k)
  simp only[qtL,List.length_append]
  omega
theorem qtL_lt (q:Nat) (s:ByteArray) (hq:q<256):∀k,∀x∈qtL q s k,x<256
 | 0=>by simp[qtL,hq]
 | k+1=>by
  intro x hx
  simp only[qtL,List.mem_append]at hx
  rcases hx with hx | hx
  ·
   exact qtL_lt q s hq k x hx
  ·
   exact escB_lt q _ hq (byteAt_lt s k) x hx
def qt (q:Nat) (s:ByteArray):ByteArray:=txt (qtL q s s.size++[q])
theorem ByL_append (a b:List Nat):ByL (a++b)=ByL a++ByL b:=by simp[ByL]
end Go.Proofs.YtehcjlkgfgpjnaaGreatDoor
namespace Go.Proofs.YtehcjlkgfgpjnaaGreatDoor
set_option linter.unusedVariables false
set_option linter.unusedSimpArgs false
set_option maxRecDepth 100000
open Go.RowKit
theorem digN (n:Nat) (h1:n<16):∀h,((⟨#[48,49,50,51,52,53,54,55,56,57,97,98,99,100,101,102]⟩:ByteArray)[n]'h).toNat=hexd n:=by
 have:∀y:Fin 16,∀h,((⟨#[48,49,50,51,52,53,54,55,56,57,97,98,99,100,101,102]⟩:ByteArray)[y.val]'h).toNat=hexd y.val:=by decide +kernel
 exact this ⟨n,h1⟩
theorem and15 (x:Nat) (h:x<256):bits .and .u8 (x:Int) 15=((x:Int) % 16):=by
 have:∀y:Fin 256,bits .and .u8 (y.val:Int) 15=((y.val:Int) % 16):=by decide +kernel
 exact this ⟨x,h⟩
theorem qtL_step (q:Nat) (s:ByteArray) (k:Nat):qtL q s (k+1)=qtL q s k++escB q (byteAt s k):=rfl
set_option maxHeartbeats 4000000 in
theorem quoteWith_any (s:ByteArray) (q:Nat) (w:World) (hq:q<256) (hs:s.size≤300000000) :
  Calls Tryz.prog 120 #[.string s,.int .u8 q] w fun e w'=>e=.returned (.string (qt q s))∧Bel w w':=by
 obtain⟨i0,hi0,iz0,iz1,iz2⟩:=info_parts infoQ8
 go_enter Tryz.func120,Tryz.ntmps120
 go_wp2_with (fail)
 go_loopw [5,6,7] (fun v i _ wr=>∃k:Nat,i=.int .i64 k∧k≤s.size∧wr.ownsRow w.heap.size 5 1 v (qtL q s k).length (ByL (qtL q s k))∧Bel w wr) (fun _ i _ _=>s.size - (intOf i).toNat)
 case atStart=>exact⟨0,rfl,by omega,own_new w _ _ 1 #[.int .u8 q] (Nat.le_refl _) rfl (by unfold maxLen;omega),bl⟩
 case round =>
  obtain⟨k,rfl,hk,hown,hbw⟩:=hrel
  have hql:=qtL_len q s k
  by_cases h:k<s.size
  ·
   have hd:decide ((k:Int)<(s.size:Int))=true:=by simp;omega
   have hB:=byteAt_eq s k h
   have hbl:=byteAt_lt s k
   rw[←hB]at hbl
   have HBt:=hide hB
   clear hB
   rcases (show s[k].toNat=q∨(¬s[k].toNat=q∧s[k].toNat=92)∨(¬s[k].toNat=q∧¬s[k].toNat=92∧s[k].toNat=10)∨(¬s[k].toNat=q∧¬s[k].toNat=92∧¬s[k].toNat=10∧s[k].toNat=9)∨(¬s[k].toNat=q∧¬s[k].toNat=92∧¬s[k].toNat=10∧¬s[k].toNat=9∧s[k].toNat<32)∨(¬s[k].toNat=q∧¬s[k].toNat=92∧¬s[k].toNat=10∧¬s[k].toNat=9∧126<s[k].toNat)∨(¬s[k].toNat=q∧¬s[k].toNat=92∧¬s[k].toNat=10∧¬s[k].toNat=9∧32≤s[k].toNat∧s[k].toNat≤126) by omega)with hc | hc | hc | hc | hc | hc | hc
   ·
    have HE:Hid (escB q (byteAt s k)=[92,byteAt s k]):=by show _=_;rw[←HBt.out];unfold escB;rw[if_pos (by omega)]
    have f1:((s[k].toNat:Int)==(q:Int))=true:=by simp[hc]
    clear hc
    go_wp2_with (at_builtin;(go_loud (refine wpList_append_own _ rfl _ _ 43 rfl w.heap.size 5 i0 (.int .u8 0) 1 1 Tryz.underlying43 hi0 iz0 iz1 iz2 rfl (by decide) _ _ _ rfl (hown.alloc _) ⟨wr.heap.size,0,none⟩ 2 2 [.int .u8 92,.int .u8 (s[k].toNat:Int)] rfl rfl ?c1 ?c2 ?c3 ?c4 ?c5 ?_)))
    case c1 =>
     exact rk168
    case c2=>intro u hu;simp at hu;rcases hu with rfl | rfl <;> rfl
    case c3=>have:=qtL_len q s k;unfold maxLen;omega
    case c4=>have:=qtL_len q s k;omega
    case c5=>have:=hbw.size;simp;omega
    exact rk87
   ·
    have HE:Hid (escB q (byteAt s k)=[92,byteAt s k]):=by show _=_;rw[←HBt.out];unfold escB;rw[if_pos (by omega)]
    have f1:((s[k].toNat:Int)==(q:Int))=false:=by simp;omega
    have f2:((s[k].toNat:Int)==92)=true:=by simp;omega
    clear hc
    go_wp2_with (at_builtin;(go_loud (refine wpList_append_own _ rfl _ _ 43 rfl w.heap.size 5 i0 (.int .u8 0) 1 1 Tryz.underlying43 hi0 iz0 iz1 iz2 rfl (by decide) _ _ _ rfl (hown.alloc _) ⟨wr.heap.size,0,none⟩ 2 2 [.int .u8 92,.int .u8 (s[k].toNat:Int)] rfl rfl ?c1 ?c2 ?c3 ?c4 ?c5 ?_)))
    case c1 =>
     exact rk168
    case c2=>intro u hu;simp at hu;rcases hu with rfl | rfl <;> rfl
    case c3=>have:=qtL_len q s k;unfold maxLen;omega
    case c4=>have:=qtL_len q s k;omega
    case c5=>have:=hbw.size;simp;omega
    exact rk87
   ·
    have HE:Hid (escB q (byteAt s k)=[92,110]):=by show _=_;rw[←HBt.out];unfold escB;rw[if_neg (by omega),if_pos (by omega)]
    have f1:((s[k].toNat:Int)==(q:Int))=false:=by simp;omega
    have f2:((s[k].toNat:Int)==92)=false:=by simp;omega
    have f3:((s[k].toNat:Int)==10)=true:=by simp;omega
    clear hc
    go_wp2_with (at_builtin;(go_loud (refine wpList_append_own _ rfl _ _ 43 rfl w.heap.size 5 i0 (.int .u8 0) 1 1 Tryz.underlying43 hi0 iz0 iz1 iz2 rfl (by decide) _ _ _ rfl (hown.alloc _) ⟨wr.heap.size,0,none⟩ 2 2 [.int .u8 92,.int .u8 110] rfl rfl ?c1 ?c2 ?c3 ?c4 ?c5 ?_)))
    case c1 =>
     exact rk168
    case c2=>intro u hu;simp at hu;rcases hu with rfl | rfl <;> rfl
    case c3=>have:=qtL_len q s k;unfold maxLen;omega
    case c4=>have:=qtL_len q s k;omega
    case c5=>have:=hbw.size;simp;omega
    exact rk87
   ·
    have HE:Hid (escB q (byteAt s k)=[92,116]):=by show _=_;rw[←HBt.out];unfold escB;rw[if_neg (by omega),if_neg (by omega),if_pos (by omega)]
    have f1:((s[k].toNat:Int)==(q:Int))=false:=by simp;omega
    have f2:((s[k].toNat:Int)==92)=false:=by simp;omega
    have f3:((s[k].toNat:Int)==10)=false:=by simp;omega
    have f4:((s[k].toNat:Int)==9)=true:=by simp;omega
    clear hc
    go_wp2_with (at_builtin;(go_loud (refine wpList_append_own _ rfl _ _ 43 rfl w.heap.size 5 i0 (.int .u8 0) 1 1 Tryz.underlying43 hi0 iz0 iz1 iz2 rfl (by decide) _ _ _ rfl (hown.alloc _) ⟨wr.heap.size,0,none⟩ 2 2 [.int .u8 92,.int .u8 116] rfl rfl ?c1 ?c2 ?c3 ?c4 ?c5 ?_)))
    case c1 =>
     exact rk168
    case c2=>intro u hu;simp at hu;rcases hu with rfl | rfl <;> rfl
    case c3=>have:=qtL_len q s k;unfold maxLen;omega
    case c4=>have:=qtL_len q s k;omega
    case c5=>have:=hbw.size;simp;omega
    exact rk87
   ·
    have HE:Hid (escB q (byteAt s k)=[92,120,hexd (byteAt s k / 16),hexd (byteAt s k % 16)]):=by show _=_;rw[←HBt.out];unfold escB;rw[if_neg (by omega),if_neg (by omega),if_neg (by omega),if_pos (by omega)]
    have f1:((s[k].toNat:Int)==(q:Int))=false:=by simp;omega
    have f2:((s[k].toNat:Int)==92)=false:=by simp;omega
    have f3:((s[k].toNat:Int)==10)=false:=by simp;omega
    have f4:((s[k].toNat:Int)==9)=false:=by simp;omega
    have f5:decide ((s[k].toNat:Int)<32)=true:=by simp;omega
    exact rk95
   ·
    have HE:Hid (escB q (byteAt s k)=[92,120,hexd (byteAt s k / 16),hexd (byteAt s k % 16)]):=by show _=_;rw[←HBt.out];unfold escB;rw[if_neg (by omega),if_neg (by omega),if_neg (by omega),if_pos (by omega)]
    have f1:((s[k].toNat:Int)==(q:Int))=false:=by simp;omega
    have f2:((s[k].toNat:Int)==92)=false:=by simp;omega
    have f3:((s[k].toNat:Int)==10)=false:=by simp;omega
    have f4:((s[k].toNat:Int)==9)=false:=by simp;omega
    have f5:decide ((s[k].toNat:Int)<32)=false:=by simp;omega
    have f6:decide (126<(s[k].toNat:Int))=true:=by simp;omega
    exact rk95
   ·
    have HE:Hid (escB q (byteAt s k)=[byteAt s k]):=by show _=_;rw[←HBt.out];unfold escB;rw[if_neg (by omega),if_neg (by omega),if_neg (by omega),if_neg (by omega)]
    have f1:((s[k].toNat:Int)==(q:Int))=false:=by simp;omega
    have f2:((s[k].toNat:Int)==92)=false:=by simp;omega
    have f3:((s[k].toNat:Int)==10)=false:=by simp;omega
    have f4:((s[k].toNat:Int)==9)=false:=by simp;omega
    have f5:decide ((s[k].toNat:Int)<32)=false:=by simp;omega
    have f6:decide (126<(s[k].toNat:Int))=false:=by simp;omega
    clear hc
    go_wp2_with (at_builtin;(go_loud (refine wpList_append_own _ rfl _ _ 43 rfl w.heap.size 5 i0 (.int .u8 0) 1 1 Tryz.underlying43 hi0 iz0 iz1 iz2 rfl (by decide) _ _ _ rfl (hown.alloc _) ⟨wr.heap.size,0,none⟩ 1 1 [.int .u8 (s[k].toNat:Int)] rfl rfl ?c1 ?c2 ?c3 ?c4 ?c5 ?_)))
    case c1 =>
     intro j u hj
     match j,hj with
     | 0,hj=>simp at hj;subst hj;simp[Addr.add]
    case c2=>intro u hu;simp at hu;subst hu;rfl
    case c3=>have:=qtL_len q s k;unfold maxLen;omega
    case c4=>have:=qtL_len q s k;omega
    case c5=>have:=hbw.size;simp;omega
    exact rk87
  ·
   have hd:decide ((k:Int)<(s.size:Int))=false:=by simp;omega
   have hks:k=s.size:=by omega
   have HKS:=hide hks
   clear hks
   go_wp2_with (at_builtin;(go_loud (refine wpList_append_own _ rfl _ _ 43 rfl w.heap.size 5 i0 (.int .u8 0) 1 1 Tryz.underlying43 hi0 iz0 iz1 iz2 rfl (by decide) _ _ _ rfl (hown.alloc _) ⟨wr.heap.size,0,none⟩ 1 1 [.int .u8 q] rfl rfl ?c1 ?c2 ?c3 ?c4 ?c5 ?_)))
   case c1 =>
    intro j u hj
    match j,hj with
    | 0,hj=>simp at hj;subst hj;simp[Addr.add]
   case c2=>intro u hu;simp at hu;subst hu;rfl
   case c3=>have:=qtL_len q s k;unfold maxLen;omega
   case c4=>have:=qtL_len q s k;omega
   case c5=>have:=hbw.size;simp;omega
   intro v' w9 hown9 hgrow _
   have hbw9:Bel w w9:=Below.grown (by show Bel w _;exact bl) hgrow (by have:=hbw.size;simp;omega) (fun x hx=>by have:=(hown.lt x hx).1;omega)
   have hT:=bytes_text (qtL q s k++[q]) (fun x hx=>by rcases List.mem_append.1 hx with h | h;exact qtL_lt q s hq k x h;simp at h;omega) w9 _ _ (by rw[ByL_append,List.length_append];exact hown9)
   clear hgrow hown9
   go_wp2_with (fail)
   all_goals
    go_returns
    exact⟨by rw[HKS.out];rfl,hbw9⟩
end Go.Proofs.YtehcjlkgfgpjnaaGreatDoor
namespace Go.Proofs.YtehcjlkgfgpjnaaGreatDoor
set_option linter.unusedVariables false
set_option linter.unusedSimpArgs false
set_option maxRecDepth 100000
open Go.RowKit
set_option maxHeartbeats 400000 in
theorem implHasByte_any (lo hi:Int) (b:Nat) (w:World) (hb:b<256) :
  Calls Tryz.prog 144 #[.agg #[.int .i64 lo,.int .i64 hi],.int .u8 b] w fun e w'=>e=.returned (.bool (hasBit lo hi b))∧Bel w w':=by
 have B1:=hide (bit_shift lo b)
 have B2:=hide (bit_shift hi (b - 64))
 go_enter Tryz.func144,Tryz.ntmps144
 go_wp2
 all_goals
  go_returns
  go_light
  refine⟨?_,bl⟩
  have B1:=B1.out
  have B2:=B2.out
  simp only[Array.getD_eq_getD_getElem?,List.getElem?_toArray,List.getElem?_cons_succ,List.getElem?_cons_zero,Option.getD_some]
  unfold hasBit
  grind
end Go.Proofs.YtehcjlkgfgpjnaaGreatDoor
