/- The text of a set, and sets and texts in quotes: both sides. -/
import Derived.Test.YtehcjlkgfgpjnaaGreatDoorPr
import Derived.Test.YtehcjlkgfgpjnaaGreatDoorPE7
import Derived.Test.YtehcjlkgfgpjnaaGreatDoorPR0
import Derived.Test.YtehcjlkgfgpjnaaGreatDoorPShelf
import Derived.Lib.ItoaLen
import Derived.Laws.Concat
import Derived.Deep.RegionHeld3
namespace Go.Proofs.YtehcjlkgfgpjnaaGreatDoor
set_option linter.unusedVariables false
set_option linter.unusedSimpArgs false
set_option maxRecDepth 100000
open Go.RowKit
def csL (lo hi:Int):Nat→List Nat
 | 0=>[]
 | k+1=>csL lo hi k++(if hasBit lo hi k then [k] else [])
theorem csL_len (lo hi:Int):∀k,(csL lo hi k).length≤k
 | 0=>by simp[csL]
 | k+1=>by
  have:=csL_len lo hi k
  simp only[csL,List.length_append]
  split <;> simp <;> omega
theorem csL_lt (lo hi:Int):∀k,∀x∈csL lo hi k,x<k
 | 0=>by simp[csL]
 | k+1=>by
  intro x hx
  simp only[csL,List.mem_append]at hx
  rcases hx with hx | hx
  ·
   have:=csL_lt lo hi k x hx;omega
  ·
   split at hx
   ·
    simp at hx;omega
   ·
    simp at hx
theorem csL_yes {lo hi:Int} {k:Nat} (h:hasBit lo hi k=true):csL lo hi (k+1)=csL lo hi k++[k]:=by simp[csL,h]
theorem csL_no {lo hi:Int} {k:Nat} (h:hasBit lo hi k=false):csL lo hi (k+1)=csL lo hi k:=by simp[csL,h]
def csT (lo hi:Int):ByteArray:=txt (csL lo hi 128)
theorem csT_size (lo hi:Int):(csT lo hi).size≤128:=by unfold csT;rw[txt_size];exact csL_len lo hi 128
set_option maxHeartbeats 2000000 in
theorem implCsetTextQ_any (lo hi:Int) (w:World) :
  Calls Tryz.prog 121 #[.agg #[.int .i64 lo,.int .i64 hi]] w fun e w'=>e=.returned (.string (csT lo hi))∧Bel w w':=by
 obtain⟨i0,hi0,iz0,iz1,iz2⟩:=info_parts infoQ8
 go_enter Tryz.func121,Tryz.ntmps121
 go_wp2_with (fail)
 go_loopw [3,4] (fun v i wr=>∃k:Nat,i=.int .i64 k∧k≤128∧wr.ownsRow (w.heap.size+1) 5 1 v (csL lo hi k).length (ByL (csL lo hi k))∧Bel (w.alloc (.cells #[.int .i64 lo,.int .i64 hi] 46)) wr) (fun _ i _=>128 - (intOf i).toNat)
 case atStart=>exact⟨0,rfl,by omega,by have:=own_new (w.alloc (.cells #[.int .i64 lo,.int .i64 hi] 46)) (w.heap.size+1) 5 0 #[] (by simp) rfl (by unfold maxLen;omega);rw[World.size_alloc]at this;exact this,bl⟩
 case round =>
  obtain⟨k,rfl,hk,hown,hbx⟩:=hrel
  have p0:wr.cell? ⟨w.heap.size,0,none⟩=some (.int .i64 lo):=(hbx.box _ (by simp) 0).trans (by simp)
  have p1:wr.cell? ⟨w.heap.size,1,none⟩=some (.int .i64 hi):=(hbx.box _ (by simp) 1).trans (by simp)
  have hsz:=hbx.size
  simp only[World.size_alloc]at hsz
  have hbw:Bel w wr:=Bel.trans bl hbx
  have hcl:=csL_len lo hi k
  by_cases h:k<128
  ·
   have hd:decide ((k:Int)<128)=true:=by simp;omega
   have hw8:IntKind.u8.wrap (k:Int)=k:=by rw[IntKind.wrap_u8];omega
   cases hh:hasBit lo hi k
   ·
    have HH:=hide hh
    clear hh
    go_wp2_with (fail)
    refine (implHasByte_any lo hi k _ (by omega)).mono ?_
    rintro e w1 ⟨rfl,hb1⟩
    rw[HH.out]
    have hown1:=own_belQ hown hb1
    go_wp2_with (fail)
    exact⟨⟨k+1,by go_num,by omega,by rw[csL_no HH.out];exact hown1,bl⟩,by simp only[intOf];omega⟩
   ·
    have HH:=hide hh
    clear hh
    go_wp2_with (fail)
    refine (implHasByte_any lo hi k _ (by omega)).mono ?_
    rintro e w1 ⟨rfl,hb1⟩
    rw[HH.out]
    have hown1:=own_belQ hown hb1
    have hz1:=hb1.size
    have hbw1:Bel (w.alloc (.cells #[.int .i64 lo,.int .i64 hi] 46)) w1:=bl
    clear hown p0 p1
    go_wp2_with (at_builtin;go_loud (refine wpList_append_own _ rfl _ _ 43 rfl (w.heap.size+1) 5 i0 (.int .u8 0) 1 1 Tryz.underlying43 hi0 iz0 iz1 iz2 rfl (by decide) _ _ _ rfl (hown1.alloc _) ⟨w1.heap.size,0,none⟩ 1 1 [.int .u8 k] rfl rfl ?c1 ?c2 ?c3 ?c4 ?c5 ?_))
    case c1 =>
     intro j u hj
     match j,hj with
     | 0,hj=>simp at hj;subst hj;simp[Addr.add]
    case c2=>intro u hu;simp at hu;subst hu;rfl
    case c3=>unfold maxLen;omega
    case c4=>omega
    case c5=>simp;omega
    intro v' w9 hown9 hgrow _
    have hbw9:Bel (w.alloc (.cells #[.int .i64 lo,.int .i64 hi] 46)) w9:=Below.grown (by show Bel (w.alloc (.cells #[.int .i64 lo,.int .i64 hi] 46)) _;exact bl) hgrow (by simp;omega) (fun x hx=>by have:=(hown1.lt x hx).1;simp;omega)
    have hown:w9.ownsRow (w.heap.size+1) 5 1 v' (csL lo hi (k+1)).length (ByL (csL lo hi (k+1))):=by
     rw[csL_yes HH.out,ByL_append,List.length_append];exact hown9
    clear hgrow hown9 hown1
    go_wp2_with (fail)
    exact⟨⟨k+1,by go_num,by omega,hown,hbw9⟩,by simp only[intOf];omega⟩
  ·
   have hd:decide ((k:Int)<128)=false:=by simp;omega
   obtain rfl:k=128:=by omega
   have hT:=bytes_text (csL lo hi 128) (fun x hx=>by have:=csL_lt lo hi 128 x hx;omega) wr _ _ hown
   go_wp2_with (fail)
   all_goals
    go_returns
    exact⟨rfl,hbw⟩
set_option maxHeartbeats 400000 in
theorem implQuoteText_any (s:ByteArray) (w:World) (hs:s.size≤300000000) :
  Calls Tryz.prog 81 #[.string s] w fun e w'=>e=.returned (.string (qt 34 s))∧Bel w w':=by
 go_enter Tryz.func81,Tryz.ntmps81
 go_wp2_with (fail)
 refine (quoteWith_any s 34 _ (by omega) hs).mono ?_
 rintro e w1 ⟨rfl,hb1⟩
 go_wp2_with (fail)
 all_goals
  go_returns
  exact⟨rfl,bl⟩
set_option maxHeartbeats 400000 in
theorem implQuoteCset_any (lo hi:Int) (w:World) :
  Calls Tryz.prog 82 #[.agg #[.int .i64 lo,.int .i64 hi]] w fun e w'=>e=.returned (.string (qt 39 (csT lo hi)))∧Bel w w':=by
 have hcs:=csT_size lo hi
 go_enter Tryz.func82,Tryz.ntmps82
 go_wp2_with (fail)
 refine (implCsetTextQ_any lo hi _).mono ?_
 rintro e w1 ⟨rfl,hb1⟩
 go_wp2_with (fail)
 refine (quoteWith_any (csT lo hi) 39 _ (by omega) (by omega)).mono ?_
 rintro e w2 ⟨rfl,hb2⟩
 go_wp2_with (fail)
 all_goals
  go_returns
  exact⟨rfl,bl⟩
end Go.Proofs.YtehcjlkgfgpjnaaGreatDoor
namespace Go.Proofs.YtehcjlkgfgpjnaaGreatDoor
set_option linter.unusedVariables false
set_option linter.unusedSimpArgs false
set_option maxRecDepth 100000
open Go.RowKit
theorem run_addI {a b:ByteArray} {m k:Nat} (ha:a.size≤m) (hb:b.size≤k) (h:m+k≤9223372036854775807) (w:World):(Op.stringOp .add a b).run Tryz.prog w=.ok (.string (a++b)) w:=run_string_add_sum w a b (by omega)
theorem add_le {a b:ByteArray} {m k:Nat} (ha:a.size≤m) (hb:b.size≤k):(a++b).size≤m+k:=by rw[ByteArray.size_append];omega
def itI (n:Int):ByteArray:={ data:=(Lib.itoa n).toArray }
theorem itI_le {n:Int} (h:InI n):(itI n).size≤21:=by
 show (Lib.itoa n).toArray.size≤21
 rw[List.size_toArray];exact Lib.itoa_length_le n h.1 h.2
def tailT (a b:Int):ByteArray:=({ data:=#[95] }:ByteArray)++itI a++({ data:=#[40] }:ByteArray)++itI b++({ data:=#[41] }:ByteArray)
theorem impl_tail (nm:ByteArray) (a b:Int):nm++({ data:=#[95] }:ByteArray)++itI a++({ data:=#[40] }:ByteArray)++itI b++({ data:=#[41] }:ByteArray)=nm++tailT a b:=by
 unfold tailT;simp only[ByteArray.append_assoc]
def recAt (s:TStore) (n:Int):TRecordType:=s.records.getD n.toNat (.mk ByteArray.empty [] 0)
def nameAt (s:TStore) (n:Int):ByteArray:=s.names.getD n.toNat ByteArray.empty
def img0 (s:TStore) (v:VVal):ByteArray :=
 if v.k=0 then ({ data:=#[38,110,117,108,108] }:ByteArray) else if v.k=1 then itI v.n else if v.k=2 then qt 34 v.t else if v.k=3 then qt 39 (csT v.lo v.hi)
 else if v.k=4 then ({ data:=#[108,105,115,116] }:ByteArray)++tailT (objAt s v.n).serial (objAt s v.n).items.length
 else if v.k=5 then ({ data:=#[116,97,98,108,101] }:ByteArray)++tailT (objAt s v.n).serial (objAt s v.n).keys.length
 else if v.k=6 then ({ data:=#[115,101,116] }:ByteArray)++tailT (objAt s v.n).serial (objAt s v.n).keys.length
 else if v.k=7 then ({ data:=#[114,101,99,111,114,100,32] }:ByteArray)++(recAt s (objAt s v.n).tag).name++tailT (objAt s v.n).serial (objAt s v.n).items.length
 else if v.k=8 then ({ data:=#[112,114,111,99,101,100,117,114,101,32] }:ByteArray)++nameAt s v.n
 else if v.k=9 then ({ data:=#[102,117,110,99,116,105,111,110,32] }:ByteArray)++funName v.n
 else if v.k=10 then ({ data:=#[114,101,99,111,114,100,32,99,111,110,115,116,114,117,99,116,111,114,32] }:ByteArray)++(recAt s v.n).name
 else if v.k=11 then ({ data:=#[99,111,45,101,120,112,114,101,115,115,105,111,110] }:ByteArray)++tailT (objAt s v.n).serial (vAt (objAt s v.n).items 2).n
 else if v.k=12 then ({ data:=#[112,97,116,116,101,114,110,95] }:ByteArray)++itI (objAt s v.n).serial
 else if v.k=19 then ({ data:=#[102,114,97,109,101] }:ByteArray) else ({ data:=#[115,99,97,110] }:ByteArray)
def imgV (s:TStore) (v:VVal):ByteArray:=if isRef v.k=true then (if (rdV s v).2≠0 then ({ data:=#[118,97,114,105,97,98,108,101] }:ByteArray) else img0 s (rdV s v).1) else img0 s v
theorem in_objI {s:TStore} {k n i:Int} {t:ByteArray} {lo hi:Int} (h:inB s ⟨k,n,i,t,lo,hi⟩=true) (hk:k=4∨k=5∨k=6∨k=7∨k=11∨k=12) :
  ∃m:Nat,n=m∧∃hm:m<s.objects.length,s.objects[m].kind=kindI k:=by
 have hw:=inB_well h
 have hn:=well_n hw (by omega)
 obtain⟨m,rfl⟩:=Int.eq_ofNat_of_zero_le hn
 have hk0:kindI k≠0:=by rcases hk with rfl | rfl | rfl | rfl | rfl | rfl <;> decide
 rw[inB_obj hw hk0]at h
 rcases Nat.lt_or_ge m s.objects.length with hlt | hge
 ·
  rw[objIn_yes (o:=s.objects[m]) (by simpa using hlt) (by simp)]at h
  rw[Bool.and_eq_true,decide_eq_true_eq]at h
  exact⟨m,rfl,hlt,h.1⟩
 ·
  rw[objIn_no (by simpa using hge)]at h;cases h
theorem coex_ofI {s:TStore} (h:validB s=true) {m:Nat} (hm:m<s.objects.length) (hk:s.objects[m].kind=6) :
  ∃tag ser:Int,∃(a b c:TValue) (keys:List TValue),s.objects[m]=.mk 6 tag ser [a,b,c] keys:=by
 have ho:=val_obj_of h m hm
 obtain⟨kd,tag,ser,its,keys,e⟩:∃kd tag ser its keys,s.objects[m]=.mk kd tag ser its keys:=by cases s.objects[m];exact⟨_,_,_,_,_,rfl⟩
 rw[e]at hk ho
 obtain rfl:kd=6:=hk
 rw[objB_6]at ho
 simp only[Bool.and_eq_true,decide_eq_true_eq]at ho
 have hl:its.length=3:=ho.2.1.1.1.1.1.1.1.2
 obtain⟨a,b,c,rfl⟩:∃a b c,its=[a,b,c]:=by
  match its,hl with
  | [a,b,c],_=>exact⟨a,b,c,rfl⟩
 exact⟨tag,ser,a,b,c,keys,e⟩
theorem rec_of {s:TStore} (h:validB s=true) {m:Nat} (hm:m<s.objects.length) (hk:s.objects[m].kind=5) :
  ∃(r:Nat) (ser:Int) (its keys:List TValue),r<s.records.length∧s.objects[m]=.mk 5 r ser its keys:=by
 have ho:=val_obj_of h m hm
 obtain⟨kd,tag,ser,its,keys,e⟩:∃kd tag ser its keys,s.objects[m]=.mk kd tag ser its keys:=by cases s.objects[m];exact⟨_,_,_,_,_,rfl⟩
 rw[e]at hk ho
 obtain rfl:kd=5:=hk
 rw[objB_5]at ho
 simp only[Bool.and_eq_true,decide_eq_true_eq]at ho
 obtain⟨r,rfl⟩:=Int.eq_ofNat_of_zero_le ho.2.1.1.1.1
 exact⟨r,ser,its,keys,by have:=ho.2.1.1.1.2;omega,e⟩
theorem rec_name {s:TStore} (h:validB s=true) {r:Nat} (hr:r<s.records.length):s.records[r].name.size≤12:=by
 cases hb:recB s.records[r]
 ·
  rw[val_rec r hr hb]at h;cases h
 ·
  unfold recB nameB at hb;simp at hb;omega
theorem name_of {s:TStore} (h:validB s=true) {r:Nat} (hr:r<s.names.length):s.names[r].size≤12:=by
 cases hb:headB s
 ·
  rw[val_head hb]at h;cases h
 ·
  unfold headB at hb
  rw[Bool.and_eq_true]at hb
  have:=List.all_eq_true.1 hb.2 s.names[r] (List.getElem_mem hr)
  unfold nameB at this;simp at this;omega
theorem recAt_get {s:TStore} {r:Nat} (hr:r<s.records.length):recAt s (r:Int)=s.records[r]:=by
 unfold recAt;rw[Int.toNat_natCast];simp[List.getD,hr]
theorem nameAt_get {s:TStore} {r:Nat} (hr:r<s.names.length):nameAt s (r:Int)=s.names[r]:=by
 unfold nameAt;rw[Int.toNat_natCast];simp[List.getD,hr]
theorem in_nam {s:TStore} {n i:Int} {t:ByteArray} {lo hi:Int} (h:inB s ⟨8,n,i,t,lo,hi⟩=true):∃m:Nat,n=m∧m<s.names.length:=by
 have hw:=inB_well h
 obtain⟨m,rfl⟩:=Int.eq_ofNat_of_zero_le (well_n hw (by omega))
 unfold inB at h
 rw[hw,if_neg (show ¬(kindI 8≠0) by decide)]at h
 exact⟨m,rfl,by simpa using h⟩
theorem in_rec {s:TStore} {n i:Int} {t:ByteArray} {lo hi:Int} (h:inB s ⟨10,n,i,t,lo,hi⟩=true):∃m:Nat,n=m∧m<s.records.length:=by
 have hw:=inB_well h
 obtain⟨m,rfl⟩:=Int.eq_ofNat_of_zero_le (well_n hw (by omega))
 unfold inB at h
 rw[hw,if_neg (show ¬(kindI 10≠0) by decide)]at h
 exact⟨m,rfl,by simpa using h⟩
theorem well_t {k n i:Int} {t:ByteArray} {lo hi:Int} (h:wellB ⟨k,n,i,t,lo,hi⟩=true) (hk:k=2):t.size≤120:=by
 subst hk;unfold wellB at h;simp at h;omega
theorem funName_le (n:Int):(funName n).size≤100:=by
 have hL:∀x∈funL,x.size≤100:=by decide +kernel
 unfold funName
 split
 ·
  rcases Nat.lt_or_ge n.toNat funL.length with h | h
  ·
   rw[show funL.getD n.toNat ByteArray.empty=funL[n.toNat] by simp[List.getD,h]];exact hL _ (List.getElem_mem h)
  ·
   rw[show funL.getD n.toNat ByteArray.empty=ByteArray.empty by simp[List.getD,h]];decide
 ·
  decide
theorem allB_at {s:TStore} {l:List TValue} (h:allB s l=true) {i:Nat} (hi:i<l.length):(vAt l i).k≤12∧inB s (vAt l i)=true:=by
 rw[vAt_get hi]
 unfold allB at h
 have:=List.all_eq_true.1 h l[i] (List.getElem_mem hi)
 unfold dataB at this
 rw[Bool.and_eq_true,decide_eq_true_eq]at this
 exact this
theorem items_of {s:TStore} (hval:validB s=true) {m:Nat} (hm:m<s.objects.length) (hk:s.objects[m].kind=1∨s.objects[m].kind=2∨s.objects[m].kind=5∨s.objects[m].kind=3):allB s s.objects[m].items=true:=by
 have ho:=val_obj_of hval m hm
 obtain⟨kd,tag,ser,its,keys,e⟩:∃kd tag ser its keys,s.objects[m]=.mk kd tag ser its keys:=by cases s.objects[m];exact⟨_,_,_,_,_,rfl⟩
 rw[e]at hk ho ⊢
 show allB s its=true
 rcases hk with h | h | h | h
 ·
  obtain rfl:kd=1:=h
  rw[objB_1]at ho;simp only[Bool.and_eq_true]at ho;exact ho.2.2
 ·
  obtain rfl:kd=2:=h
  rw[objB_2]at ho;simp only[Bool.and_eq_true]at ho;exact ho.2.2
 ·
  obtain rfl:kd=5:=h
  rw[objB_5]at ho;simp only[Bool.and_eq_true]at ho;exact ho.2.2
 ·
  obtain rfl:kd=3:=h
  rw[objB_3]at ho;simp only[Bool.and_eq_true]at ho;exact ho.2.1.1.2
theorem rd_in {s:TStore} {v:VVal} (hval:validB s=true) (hin:inB s v=true) (hr:13≤v.k∧v.k≤18) (h0:(rdV s v).2=0):(rdV s v).1.k≤12∧inB s (rdV s v).1=true:=by
 obtain⟨k,n,i,t,lo,hi⟩:=v
 simp only at hr
 rcases (by omega:k=13∨k=14∨k=15∨k=16∨k=17∨k=18)with rfl | rfl | rfl | rfl | rfl | rfl
 ·
  obtain⟨m,rfl,hm,hkd,hi1⟩:=in_obj hin (by omega)
  obtain⟨j,rfl⟩:=Int.eq_ofNat_of_zero_le (well_i (inB_well hin) (by omega))
  have hj:=hi1 (by omega)
  rw[kindI_13]at hkd
  have ha:=items_of hval hm (Or.inl hkd)
  have e:rdV s ⟨13,m,j,t,lo,hi⟩=(vAt s.objects[m].items j,0):=by unfold rdV;rw[if_pos (by simp)];simp only[Int.toNat_natCast];rw[objAt_get hm]
  rw[e];exact allB_at ha (by omega)
 ·
  obtain⟨j,rfl⟩:=Int.eq_ofNat_of_zero_le (well_i (inB_well hin) (by omega))
  have hj:=in_glo hin
  have ha:allB s s.globals=true:=by
   cases hb:allB s s.globals
   ·
    rw[val_glo hb]at hval;cases hval
   ·
    rfl
  have e:rdV s ⟨14,n,j,t,lo,hi⟩=(vAt s.globals j,0):=by unfold rdV;rw[if_neg (by simp),if_pos rfl];simp only[Int.toNat_natCast]
  rw[e];exact allB_at ha (by omega)
 ·
  obtain⟨m,rfl,hm,hkd,hi1⟩:=in_obj hin (by omega)
  obtain⟨j,rfl⟩:=Int.eq_ofNat_of_zero_le (well_i (inB_well hin) (by omega))
  rw[kindI_15]at hkd
  have ha:=items_of hval hm (Or.inr (Or.inl hkd))
  have e:rdV s ⟨15,m,j,t,lo,hi⟩=(if (s.objects[m].items.length:Int)≤(j:Int) then (zeroV,205) else (vAt s.objects[m].items j,0)):=by
   exact rk210
  rw[e]at h0 ⊢
  by_cases hl:(s.objects[m].items.length:Int)≤(j:Int)
  ·
   rw[if_pos hl]at h0;cases h0
  ·
   rw[if_neg hl];exact allB_at ha (by omega)
 ·
  obtain⟨m,rfl,hm,hkd,hi1⟩:=in_obj hin (by omega)
  obtain⟨j,rfl⟩:=Int.eq_ofNat_of_zero_le (well_i (inB_well hin) (by omega))
  have hj:=hi1 (by omega)
  rw[kindI_16]at hkd
  have ha:=items_of hval hm (Or.inr (Or.inr (Or.inl hkd)))
  have e:rdV s ⟨16,m,j,t,lo,hi⟩=(vAt s.objects[m].items j,0):=by unfold rdV;rw[if_pos (by simp)];simp only[Int.toNat_natCast];rw[objAt_get hm]
  rw[e];exact allB_at ha (by omega)
 ·
  obtain⟨m,rfl,hm,hkd,-⟩:=in_obj hin (by omega)
  rw[kindI_17]at hkd
  obtain⟨tag,ser,a,b,he,ha5,hina,hinb⟩:=entry_of hval hm hkd
  obtain⟨a0,a1,a2,a3,a4,a5⟩:=a
  obtain rfl:a0=5:=ha5
  obtain⟨m2,rfl,hm2,hkd2,-⟩:=in_obj (k:=5) hina (by omega)
  rw[kindI_5]at hkd2
  have ha:=items_of hval hm2 (Or.inr (Or.inr (Or.inr hkd2)))
  obtain⟨tag2,ser2,its,keys,ht,hlen⟩:=table_of hval hm2 hkd2
  rw[ht]at ha
  replace ha:allB s its=true:=ha
  obtain⟨d,hd,hdl⟩:=idxV_bd keys b.v
  have e:rdV s ⟨17,m,i,t,lo,hi⟩=(vAt its d,0):=by
   have q1:objAt s (m:Int)=.mk 8 tag ser [.mk 5 m2 a2 a3 a4 a5,b] []:=(objAt_get hm).trans he
   have q2:objAt s (m2:Int)=.mk 3 tag2 ser2 its keys:=(objAt_get hm2).trans ht
   unfold rdV;rw[if_neg (by simp),if_neg (by simp),if_neg (by simp),if_pos rfl]
   simp only[q1,TObject.items,vAt_0,vAt_1,TValue.v_mk,q2,TObject.keys]
   rw[hd,Int.toNat_natCast]
  rw[e];exact allB_at ha (by omega)
 ·
  have hs:s.subject.size≤120:=by
   cases hb:headB s
   ·
    rw[val_head hb]at hval;cases hval
   ·
    unfold headB at hb;simp at hb;omega
  have hp:1≤s.position∧s.position≤(s.subject.size:Int)+1:=by
   cases hb:headB s
   ·
    rw[val_head hb]at hval;cases hval
   ·
    unfold headB at hb;simp at hb;omega
  have e:rdV s ⟨18,n,i,t,lo,hi⟩=(if i=1 then⟨2,0,0,s.subject,0,0⟩ else⟨1,s.position,0,ByteArray.empty,0,0⟩,0):=by
   unfold rdV;rw[if_neg (by simp),if_neg (by simp),if_neg (by simp),if_neg (by simp),if_pos rfl]
  rw[e]
  by_cases h1:i=1
  ·
   rw[if_pos h1]
   refine⟨by simp,?_⟩
   unfold inB wellB
   simp[show kindI 2=0 by decide];omega
  ·
   rw[if_neg h1]
   refine⟨by simp,?_⟩
   unfold inB wellB
   simp[show kindI 1=0 by decide];omega
abbrev ImC (f:FuncId) (s:TStore) (v:VVal) (r:ByteArray):Prop:=∀(S:Nat→Prop) (q:Nat) (w:World),StoreAt w S q s→v.Ok→P10 w→Sp w →
 Calls Tryz.prog f #[.pointer (some ⟨q,0,none⟩),.agg #[.int .i64 v.k,.int .i64 v.n,.int .i64 v.i,.string v.t,.int .i64 v.lo,.int .i64 v.hi]] w fun e w' =>
  e=.returned (.string r)∧Bel w w'
end Go.Proofs.YtehcjlkgfgpjnaaGreatDoor
namespace Go.Proofs.YtehcjlkgfgpjnaaGreatDoor
set_option linter.unusedVariables false
set_option linter.unusedSimpArgs false
set_option maxRecDepth 100000
open Go.RowKit
--%quiet
set_option maxHeartbeats 1000000 in
theorem item_ok {w:World} {S:Nat→Prop} {q:Nat} {s:TStore} (h:StoreAt w S q s) {m:Nat} (hm:m<s.objects.length) {i:Nat} (hi:i<s.objects[m].items.length):(vAt s.objects[m].items i).Ok:=by
 obtain⟨x0,x1,x2,x3,x4,x5,x6,x7,x8,x9,x10,x11,x12⟩:=s
 have HSt:=hide h
 obtain⟨A0,c0,A1,c1,A2,c2,A3,c3,A6,c6,A7,c7,A8,c8,hq,e0,e1,e2,e3,e4,e5,e6,e7,e8,e9,e10,e11,e12,hlc0,hcm0,hlc1,hcm1,hlc2,hcm2,hlc3,hcm3,hlc6,hcm6,hlc7,hcm7,hlc8,hcm8,g4,g5,g10,g11,g12,-,-,HR2,-,-,-,-⟩:=StoreAt.opn h
 clear h
 have hqn:¬q=w.heap.size:=by omega
 simp only[TStore.objects_mk]at hm hi ⊢
 have hbw:Bel w w:=Bel.refl w
 (obtain⟨b15,o15,x15_0,x15_1,x15_2,x15_3,x15_4,A15_3,C15_3,A15_4,C15_4,hA15,hS15,hl15,hx15,hv15,g15_0,g15_1,g15_2,g15_3,g15_4,c15_0,c15_1,c15_2,c15_3,c15_4⟩:=TObject.at HR2.out m hm;subst hA15;have HV15:=hide (Dat.HoldVals.bel hbw hv15);have hh15:=hbw.box b15 hl15;have hw15:=Nat.lt_of_lt_of_le hl15 (Bel.size hbw);replace c15_0:=(hh15 _).trans c15_0;replace c15_1:=(hh15 _).trans c15_1;replace c15_2:=(hh15 _).trans c15_2;replace c15_3:=(hh15 _).trans c15_3;replace c15_4:=(hh15 _).trans c15_4;have HX15:=hide hx15;have GR15_3:=hide g15_3;have GR15_4:=hide g15_4;clear hh15 hv15 hx15 hS15 g15_3 g15_4)
 have hi2:i<x15_3.length:=by have:=HX15.out;rw[this]at hi;exact hi
 (obtain⟨b16,o16,x16_0,x16_1,x16_2,x16_3,x16_4,x16_5,hA16,hS16,hl16,hx16,hv16,g16_0,g16_1,g16_2,g16_3,g16_4,g16_5,c16_0,c16_1,c16_2,c16_3,c16_4,c16_5⟩:=TValue.at GR15_3.out i hi2;subst hA16;have HV16:=hide (Dat.HoldVals.bel hbw hv16);have hh16:=hbw.box b16 hl16;have hw16:=Nat.lt_of_lt_of_le hl16 (Bel.size hbw);replace c16_0:=(hh16 _).trans c16_0;replace c16_1:=(hh16 _).trans c16_1;replace c16_2:=(hh16 _).trans c16_2;replace c16_3:=(hh16 _).trans c16_3;replace c16_4:=(hh16 _).trans c16_4;replace c16_5:=(hh16 _).trans c16_5;have HX16:=hide hx16;clear hh16 hv16 hx16 hS16)
 have e:vAt (TObject.items x2[m]) i=⟨x16_0,x16_1,x16_2,x16_3,x16_4,x16_5⟩:=by rw[HX15.out];show vAt x15_3 i=_;rw[vAt_get hi2,HX16.out];rfl
 rw[e];exact⟨g16_0,g16_1,g16_2,g16_3,g16_4,g16_5⟩
set_option maxHeartbeats 1000000 in
theorem glob_ok {w:World} {S:Nat→Prop} {q:Nat} {s:TStore} (h:StoreAt w S q s) {i:Nat} (hi:i<s.globals.length):(vAt s.globals i).Ok:=by
 obtain⟨x0,x1,x2,x3,x4,x5,x6,x7,x8,x9,x10,x11,x12⟩:=s
 have HSt:=hide h
 obtain⟨A0,c0,A1,c1,A2,c2,A3,c3,A6,c6,A7,c7,A8,c8,hq,e0,e1,e2,e3,e4,e5,e6,e7,e8,e9,e10,e11,e12,hlc0,hcm0,hlc1,hcm1,hlc2,hcm2,hlc3,hcm3,hlc6,hcm6,hlc7,hcm7,hlc8,hcm8,g4,g5,g10,g11,g12,-,-,-,HR3,-,-,-⟩:=StoreAt.opn h
 clear h
 have hqn:¬q=w.heap.size:=by omega
 simp only[TStore.globals_mk]at hi ⊢
 have hbw:Bel w w:=Bel.refl w
 (obtain⟨b16,o16,x16_0,x16_1,x16_2,x16_3,x16_4,x16_5,hA16,hS16,hl16,hx16,hv16,g16_0,g16_1,g16_2,g16_3,g16_4,g16_5,c16_0,c16_1,c16_2,c16_3,c16_4,c16_5⟩:=TValue.at HR3.out i hi;subst hA16;have HV16:=hide (Dat.HoldVals.bel hbw hv16);have hh16:=hbw.box b16 hl16;have hw16:=Nat.lt_of_lt_of_le hl16 (Bel.size hbw);replace c16_0:=(hh16 _).trans c16_0;replace c16_1:=(hh16 _).trans c16_1;replace c16_2:=(hh16 _).trans c16_2;replace c16_3:=(hh16 _).trans c16_3;replace c16_4:=(hh16 _).trans c16_4;replace c16_5:=(hh16 _).trans c16_5;have HX16:=hide hx16;clear hh16 hv16 hx16 hS16)
 have e:vAt x3 i=⟨x16_0,x16_1,x16_2,x16_3,x16_4,x16_5⟩:=by rw[vAt_get hi,HX16.out];rfl
 rw[e];exact⟨g16_0,g16_1,g16_2,g16_3,g16_4,g16_5⟩
set_option maxHeartbeats 1000000 in
theorem sub_ok {w:World} {S:Nat→Prop} {q:Nat} {s:TStore} (h:StoreAt w S q s):s.subject.size≤maxLen∧InI s.position:=by
 obtain⟨x0,x1,x2,x3,x4,x5,x6,x7,x8,x9,x10,x11,x12⟩:=s
 have HSt:=hide h
 obtain⟨A0,c0,A1,c1,A2,c2,A3,c3,A6,c6,A7,c7,A8,c8,hq,e0,e1,e2,e3,e4,e5,e6,e7,e8,e9,e10,e11,e12,hlc0,hcm0,hlc1,hcm1,hlc2,hcm2,hlc3,hcm3,hlc6,hcm6,hlc7,hcm7,hlc8,hcm8,g4,g5,g10,g11,g12,-,-,-,-,-,-,-⟩:=StoreAt.opn h
 clear h
 have hqn:¬q=w.heap.size:=by omega
 exact⟨by unfold maxLen;exact g4,g5⟩
theorem inI0:InI 0:=by unfold InI;omega
theorem inI1:InI 1:=by unfold InI;omega
theorem inI2:InI 2:=by unfold InI;omega
theorem emp_le:ByteArray.empty.size≤maxLen:=by unfold maxLen;decide
theorem rd_ok {w:World} {S:Nat→Prop} {q:Nat} {s:TStore} {v:VVal} (hs:StoreAt w S q s) (hval:validB s=true) (hin:inB s v=true) (hr:13≤v.k∧v.k≤18) (h0:(rdV s v).2=0):(rdV s v).1.Ok:=by
 obtain⟨k,n,i,t,lo,hi⟩:=v
 simp only at hr
 rcases (by omega:k=13∨k=14∨k=15∨k=16∨k=17∨k=18)with rfl | rfl | rfl | rfl | rfl | rfl
 ·
  obtain⟨m,rfl,hm,hkd,hi1⟩:=in_obj hin (by omega)
  obtain⟨j,rfl⟩:=Int.eq_ofNat_of_zero_le (well_i (inB_well hin) (by omega))
  have hj:=hi1 (by omega)
  have e:rdV s ⟨13,m,j,t,lo,hi⟩=(vAt s.objects[m].items j,0):=by unfold rdV;rw[if_pos (by simp)];simp only[Int.toNat_natCast];rw[objAt_get hm]
  rw[e];exact item_ok hs hm (by omega)
 ·
  obtain⟨j,rfl⟩:=Int.eq_ofNat_of_zero_le (well_i (inB_well hin) (by omega))
  have hj:=in_glo hin
  have e:rdV s ⟨14,n,j,t,lo,hi⟩=(vAt s.globals j,0):=by unfold rdV;rw[if_neg (by simp),if_pos rfl];simp only[Int.toNat_natCast]
  rw[e];exact glob_ok hs (by omega)
 ·
  obtain⟨m,rfl,hm,hkd,hi1⟩:=in_obj hin (by omega)
  obtain⟨j,rfl⟩:=Int.eq_ofNat_of_zero_le (well_i (inB_well hin) (by omega))
  have e:rdV s ⟨15,m,j,t,lo,hi⟩=(if (s.objects[m].items.length:Int)≤(j:Int) then (zeroV,205) else (vAt s.objects[m].items j,0)):=by
   exact rk210
  rw[e]at h0 ⊢
  by_cases hl:(s.objects[m].items.length:Int)≤(j:Int)
  ·
   rw[if_pos hl]at h0;cases h0
  ·
   rw[if_neg hl];exact item_ok hs hm (by omega)
 ·
  obtain⟨m,rfl,hm,hkd,hi1⟩:=in_obj hin (by omega)
  obtain⟨j,rfl⟩:=Int.eq_ofNat_of_zero_le (well_i (inB_well hin) (by omega))
  have hj:=hi1 (by omega)
  have e:rdV s ⟨16,m,j,t,lo,hi⟩=(vAt s.objects[m].items j,0):=by unfold rdV;rw[if_pos (by simp)];simp only[Int.toNat_natCast];rw[objAt_get hm]
  rw[e];exact item_ok hs hm (by omega)
 ·
  obtain⟨m,rfl,hm,hkd,-⟩:=in_obj hin (by omega)
  rw[kindI_17]at hkd
  obtain⟨tag,ser,a,b,he,ha5,hina,hinb⟩:=entry_of hval hm hkd
  obtain⟨a0,a1,a2,a3,a4,a5⟩:=a
  obtain rfl:a0=5:=ha5
  obtain⟨m2,rfl,hm2,hkd2,-⟩:=in_obj (k:=5) hina (by omega)
  rw[kindI_5]at hkd2
  obtain⟨tag2,ser2,its,keys,ht,hlen⟩:=table_of hval hm2 hkd2
  obtain⟨d,hd,hdl⟩:=idxV_bd keys b.v
  have e:rdV s ⟨17,m,i,t,lo,hi⟩=(vAt s.objects[m2].items d,0):=by
   have q1:objAt s (m:Int)=.mk 8 tag ser [.mk 5 m2 a2 a3 a4 a5,b] []:=(objAt_get hm).trans he
   have q2:objAt s (m2:Int)=.mk 3 tag2 ser2 its keys:=(objAt_get hm2).trans ht
   unfold rdV;rw[if_neg (by simp),if_neg (by simp),if_neg (by simp),if_pos rfl]
   simp only[q1,TObject.items,vAt_0,vAt_1,TValue.v_mk,q2,TObject.keys]
   rw[hd,Int.toNat_natCast,ht]
  rw[e];exact item_ok hs hm2 (by rw[ht];show d<its.length;omega)
 ·
  have e:rdV s ⟨18,n,i,t,lo,hi⟩=(if i=1 then⟨2,0,0,s.subject,0,0⟩ else⟨1,s.position,0,ByteArray.empty,0,0⟩,0):=by
   unfold rdV;rw[if_neg (by simp),if_neg (by simp),if_neg (by simp),if_neg (by simp),if_pos rfl]
  obtain⟨h4,h5⟩:=sub_ok hs
  rw[e]
  by_cases h1:i=1
  ·
   rw[if_pos h1];exact⟨inI2,inI0,inI0,h4,inI0,inI0⟩
  ·
   rw[if_neg h1];exact⟨inI1,h5,inI0,emp_le,inI0,inI0⟩
theorem implFmtI_any (n:Int) (w:World) (hn:InI n) (ht:P10 w):Calls Tryz.prog 80 #[.int .i64 n] w fun e w'=>e=.returned (.string (itI n))∧Bel w w':=implFormatInt_any n w hn ht
end Go.Proofs.YtehcjlkgfgpjnaaGreatDoor
