/- Lists of texts: copies in blocks of their own, marks. -/
import Derived.Test.YtehcjlkgfgpjnaaGreatDoorPTV
import Derived.Test.YtehcjlkgfgpjnaaGreatDoorPOw
import Derived.Deep.RegionHeld3
namespace Go.Proofs.YtehcjlkgfgpjnaaGreatDoor
set_option linter.unusedVariables false
set_option linter.unusedSimpArgs false
set_option maxRecDepth 100000
open Go.RowKit
set_option maxHeartbeats 800000 in
theorem toStringSL_any (ks:List ByteArray) (S:Nat→Prop) (w:World) (A:Option Addr) (c:Nat) (hR:Row w S 1 A c (ks.map fun x=>[Dat.str x])) (hwt:ks.length+Dat.wtR (ks.map fun x=>[Dat.str x])≤1048576) :
    Calls Tryz.prog 26 #[.slice A ks.length c] w (MadeRL w 1 (ks.map fun x=>[Dat.str x])):=by
  have HR:=hide hR
  have hlen:=hR.1
  have hcm:=hR.2.1
  simp only[List.length_map]at hlen
  unfold maxLen at hcm
  clear hR
  obtain⟨cur,hcur,hmk⟩:=make_rows (P:=Tryz.prog) (t:=22) (e:=9) (k:=1) ks.length (by omega) Tryz.underlying22 (by kernel_rfl)
  have HC:=hide hcur
  clear hcur
  go_enter Tryz.func26,Tryz.ntmps26
  go_wp2_with (fail)
  have HF:=hide (FillO.start w 9 1 ks.length HC.out)
  clear hmk
  go_loopw [4] (fun iv wr=>∃k:Nat,k≤ks.length∧iv=.int .i64 k∧FillO wr w.heap.size 9 1 ks.length ((ks.map fun x=>[Dat.str x]).take k)∧Bel w wr) (fun iv _=>ks.length - (intOf iv).toNat)
  case atStart=>exact⟨0,Nat.zero_le _,rfl,HF.out,bl⟩
  case round =>
    obtain⟨k,hk,rfl,hF,hbw⟩:=hrel
    have HF1:=hide hF
    have hgl:=hF.lt
    clear hF HF
    rcases Nat.lt_or_ge k ks.length with hlt | hge
    · have hd:decide ((k:Int)<(ks.length:Int))=true:=by simp;omega
      obtain⟨b1,o1,hA1,hS1,hl1,hz1,c1⟩:=strAt HR.out k hlt
      subst hA1
      replace c1:=(hbw.box b1 hl1 _).trans c1
      have HZ1:=hide hz1
      unfold maxLen at hz1
      obtain⟨y0,e0⟩:=HF1.out.cell (i:=k) (by omega)
      have f0:=HF1.out.free k
      go_wp2_with (fail)
      go_roundw
      case rel =>
       exact⟨k+1,by omega,by go_num,FillO.snoc1 (M:=[]) HF1.out hlt rfl bl ⟨[],_,(List.nil_append _).symm,Dat.own_str.2 ⟨rfl,rfl,HZ1.out⟩,rfl⟩ List.nodup_nil (fun b hb=>by simp at hb),bl⟩
      case measure=>simp[intOf];omega
    · have hd:decide ((k:Int)<(ks.length:Int))=false:=by simp;omega
      go_wp2_with (fail)
      go_returns
      obtain⟨L,q1,q2,q3⟩:=FillO.done HF1.out hge rfl (by unfold maxLen;omega)
      exact⟨some ⟨w.heap.size,0,none⟩,ks.length,L,by rw[List.length_map];rfl,q1,q2,q3,hbw⟩
theorem SStr.cnt_mk {x0:ByteArray}:Dat.cntC [Dat.str x0]=1:=by
 simp only[Dat.cntC,Dat.cnt];(try omega)
theorem SStr.mark_own {w:World} {m:Int} {x0:ByteArray} (h0:0≤m) (hm:m+(1:Nat)≤4611686018427387904):Dat.OwnVals w ([]) (Dat.markC m [Dat.str x0]) [.string (markT (m))]:=by
 have e:Dat.markC m [Dat.str x0]=[.str (markT (m))]:=by
  simp only[Dat.markC,Dat.mark,Dat.cnt]
  first | done | rfl | (simp only[Nat.cast_one];done) | (simp;done) | (push_cast;simp)
 rw[e]
 exact⟨[],_,(List.nil_append _).symm,Dat.own_str.2 ⟨rfl,rfl,Nat.le_trans (markT_size _) (by unfold maxLen;omega)⟩,rfl⟩
theorem SStr.mark_vals {w:World} {S:Nat→Prop} {m:Int} {x0:ByteArray} {vs:List Value} (h:Dat.HoldVals w S (Dat.markC m [Dat.str x0]) vs):vs=[.string (markT (m))]:=by
 have e:Dat.markC m [Dat.str x0]=[.str (markT (m))]:=by
  simp only[Dat.markC,Dat.mark,Dat.cnt]
  first | done | rfl | (simp only[Nat.cast_one];done) | (simp;done) | (push_cast;simp)
 rw[e]at h
 match vs,h with
 | [u0],h =>
 simp only[Dat.HoldVals]at h
 obtain⟨h0,-⟩:=h
 obtain⟨rfl,-⟩:=Dat.holds_str.1 h0
 exact rfl
set_option maxHeartbeats 2000000 in
theorem markStringS_any (ks:List ByteArray) (L:List Nat) (w:World) (A:Option Addr) (c:Nat) (k:Int) (hR:OwnRow w L 1 A c (ks.map (fun x=>[Dat.str x]))) (hnd:L.Nodup) (h0:0≤k) (hb:k+(Dat.cntR (ks.map (fun x=>[Dat.str x])):Nat)≤4611686018427387904) :
    Calls Tryz.prog 12 #[.slice A ks.length c,.int .i64 k] w (Marked w L 1 A c k (ks.map (fun x=>[Dat.str x]))):=by
  have HR:=hide hR
  have HN:=hide hnd
  have hlen:=hR.1
  have hcm:=hR.2.1
  simp only[List.length_map]at hlen
  unfold maxLen at hcm
  clear hR hnd
  go_enter Tryz.func12,Tryz.ntmps12
  go_wp2_with (fail)
  go_loopw [1,5] (fun kv iv wr=>∃i:Nat,i≤ks.length∧iv=.int .i64 i∧kv=.int .i64 (k+(Dat.cntR ((ks.map (fun x=>[Dat.str x])).take i):Nat))∧Hid (OwnRow wr L 1 A c (Dat.markTo k i (ks.map (fun x=>[Dat.str x]))))∧OffS (fun x=>x∉L) w wr) (fun _ iv _=>ks.length - (intOf iv).toNat)
  case atStart=>exact⟨0,Nat.zero_le _,rfl,by simp[Dat.cntR],(by rw[Dat.markTo_zero];exact HR.out),osl⟩
  case round =>
    obtain⟨i,hi,rfl,rfl,hO,hoff⟩:=hrel
    rcases Nat.lt_or_ge i ks.length with hlt | hge
    · have hd:decide ((i:Int)<(ks.length:Int))=true:=by simp;omega
      have hi0:0≤(i:Int):=by omega
      have hi1:(i:Int)<(ks.length:Int):=by omega
      obtain⟨x0,hx⟩:∃x0,ks[i]=x0:=⟨_,rfl⟩
      have HX:=hide hx
      have ht:=Dat.cntR_take (ks.map (fun x=>[Dat.str x])) i (by simpa using hlt)
      have hle:=Dat.cntR_le (ks.map (fun x=>[Dat.str x])) (i+1)
      simp only[List.getElem_map,hx,SStr.cnt_mk]at ht
      obtain⟨m,hm⟩:∃m:Int,k+(Dat.cntR ((ks.map (fun x=>[Dat.str x])).take i):Nat)=m:=⟨_,rfl⟩
      have hm0:0≤m:=by omega
      have hm1:m+1≤4611686018427387904:=by omega
      have HE:=hide (show k+(Dat.cntR ((ks.map (fun x=>[Dat.str x])).take (i+1)):Nat)=m+1 by omega)
      rw[hm]
      have HM:=hide hm
      obtain⟨b,o,L1,Le,L2,vs,rfl,hb1,hf1,hLe,hv,hvl,hc,hput⟩:=OwnRow.at hO.out i (by rw[Dat.markTo_length];simpa using hlt)
      rw[Dat.markTo_get k i _ (by simpa using hlt),List.getElem_map,hx]at hv
      obtain⟨hEL,rfl,g0⟩:=SStr.vals_own hv
      have hEL2:=hEL.symm
      clear hEL
      subst hEL2
      have z0:wr.cell? ⟨b,o+i*1,none⟩=some (.string x0):=by simpa using hc 0 (by decide)
      simp only[Nat.mul_one]at z0
      obtain⟨hbL,hLeL,hbLe,hnLe,hrest⟩:=own_parts hLe HN.out
      unfold maxLen at g0
      have HP:=hide hput
      have HLe:=hide hLe
      have HL2:=hide hLeL
      have HRS:=hide hrest
      clear hv hc hx ht hle hm hnLe hput hLe hLeL hrest
      go_wp2_with (fail)
      refine (markText_any _ _ (by omega) (by omega)).mono ?_
      rintro e w1 ⟨rfl,hb101⟩
      have hz1:=hb101.size
      (try simp only[World.size_alloc,World.size_setCell,World.size_drew,World.heap_drewN]at hz1)
      have hk1:=hb101.box b (by first | (simp;done) | (simp;omega) | omega)
      have hf_1:=hb101.boxf b (by first | (simp;done) | (simp;omega) | omega)
      have hl1:b<w1.heap.size:=by omega
      go_wp2_with (fail)
      go_roundw
      case rel =>
       refine⟨i+1,by omega,by go_num,by rw[HE.out];first | done | go_num,?_,osl⟩
       rw[←Dat.markTo_succ k i _ (by simpa using hlt)]
       refine hide ?_
       rw[List.getElem_map,HX.out,HM.out]
       refine HP.out _ _ [.string (markT (m))] (SStr.mark_own (m:=m) (x0:=x0) hm0 (by omega)) rfl (by (try simp only[World.size_alloc,World.size_setCell,World.size_drew,World.heap_drewN]);omega) (fun z hz=>?_) (fun z=>by simp[go_sem,hk1,hf_1,hf1]) (fun z hz=>?_) (cells_of1 (by rw[Nat.mul_one];simp[go_sem,hk1,hf_1,z0]))
       · exact OffS.same (S:=fun x=>x∉([])∧x≠b) (w:=wr) osl z ⟨(HRS.out z hz).1,(HRS.out z hz).2.1⟩ (hO.out.lt z (HRS.out z hz).2.2)
       · have n0:z≠o+i*1:=by omega
         rw[Nat.mul_one]at n0
         simp[go_sem,hk1,hf_1,n0]
      case measure=>simp[intOf];omega
    · have hd:decide ((i:Int)<(ks.length:Int))=false:=by simp;omega
      obtain rfl:i=ks.length:=by omega
      have HO2:=hide (show OwnRow wr L 1 A c (Dat.markR k (ks.map (fun x=>[Dat.str x])))from by have:=hO.out;rw[Dat.markTo_all _ _ _ (by simp)]at this;exact this)
      go_wp2_with (fail)
      go_returns
      rw[List.take_of_length_le (by simp)]
      exact⟨rfl,HO2.out,hoff⟩
set_option maxHeartbeats 2000000 in
theorem heldStringS_any (ks:List ByteArray) (S:Nat→Prop) (w:World) (A:Option Addr) (c:Nat) (k:Int) (hR:Row w S 1 A c (Dat.markR k (ks.map (fun x=>[Dat.str x])))) (h0:0≤k) (hb:k+(Dat.cntR (ks.map (fun x=>[Dat.str x])):Nat)≤4611686018427387904) :
  Calls Tryz.prog 13 #[.slice A ks.length c,.int .i64 k] w fun e w'=>e=.returned (.int .i64 (k+(Dat.cntR (ks.map (fun x=>[Dat.str x])):Nat)))∧Bel w w':=by
 have HR:=hide hR
 have hlen:=hR.1
 have hcm:=hR.2.1
 simp only[Dat.markR_length,List.length_map]at hlen
 unfold maxLen at hcm
 clear hR
 go_enter Tryz.func13,Tryz.ntmps13
 go_wp2_with (fail)
 go_loopw [1,5] (fun kv iv wr=>∃i:Nat,i≤ks.length∧iv=.int .i64 i∧kv=.int .i64 (k+(Dat.cntR ((ks.map (fun x=>[Dat.str x])).take i):Nat))∧Bel w wr) (fun _ iv _=>ks.length - (intOf iv).toNat)
 case atStart=>exact⟨0,Nat.zero_le _,rfl,by simp[Dat.cntR],bl⟩
 case round =>
  obtain⟨i,hi,rfl,rfl,hbw⟩:=hrel
  rcases Nat.lt_or_ge i ks.length with hlt | hge
  ·
   have hd:decide ((i:Int)<(ks.length:Int))=true:=by simp;omega
   have hi0:0≤(i:Int):=by omega
   have hi1:(i:Int)<(ks.length:Int):=by omega
   obtain⟨x0,hx⟩:∃x0,ks[i]=x0:=⟨_,rfl⟩
   have HX:=hide hx
   have ht:=Dat.cntR_take (ks.map (fun x=>[Dat.str x])) i (by simpa using hlt)
   have hle:=Dat.cntR_le (ks.map (fun x=>[Dat.str x])) (i+1)
   simp only[List.getElem_map,hx,SStr.cnt_mk]at ht
   obtain⟨m,hm⟩:∃m:Int,k+(Dat.cntR ((ks.map (fun x=>[Dat.str x])).take i):Nat)=m:=⟨_,rfl⟩
   have hm0:0≤m:=by omega
   have hm1:m+1≤4611686018427387904:=by omega
   have HE:=hide (show k+(Dat.cntR ((ks.map (fun x=>[Dat.str x])).take (i+1)):Nat)=m+1 by omega)
   rw[hm]
   have HM:=hide hm
   obtain⟨b,o,vs,rfl,-,hb1,hv,hvl,hc⟩:=Row.at HR.out i (by rw[Dat.markR_length];simpa using hlt)
   rw[Dat.markR_get _ k i (by simpa using hlt),List.getElem_map,hx,hm]at hv
   obtain rfl:=SStr.mark_vals hv
   have z0:wr.cell? ⟨b,o+i*1,none⟩=some (.string (markT (m))):=by rw[hbw.box b hb1];simpa using hc 0 (by decide)
   simp only[Nat.mul_one]at z0
   have hblt:b<wr.heap.size:=Nat.lt_of_lt_of_le hb1 hbw.size
   clear hv hc hx ht hle hm
   go_wp2_with (fail)
   go_region_held3 (fun w'=>w'.cell? ⟨b,o+i,none⟩=some (.string (markT (m)))) (go_keep) (first | (go_at_call 41;refine (markText_any _ _ (by omega) (by omega)).mono ?_;rintro e w101 ⟨rfl,hb101⟩;(have hz101:=hb101.sz;obtain⟨hk101_0,hf101_0,hl101_0,hn101_0⟩:=hb101.lay (b))))
   go_wp2_with (fail)
   all_goals
    go_roundw
    case rel=>exact⟨i+1,by omega,by go_num,(by rw[HE.out];first | done | go_num),bl⟩
    case measure=>simp[intOf];omega
  ·
   have hd:decide ((i:Int)<(ks.length:Int))=false:=by simp;omega
   obtain rfl:i=ks.length:=by omega
   go_wp2_with (fail)
   go_returns
   rw[List.take_of_length_le (by simp)]
   exact⟨rfl,hbw⟩
end Go.Proofs.YtehcjlkgfgpjnaaGreatDoor
namespace Go.Proofs.YtehcjlkgfgpjnaaGreatDoor
set_option linter.unusedVariables false
set_option linter.unusedSimpArgs false
set_option maxRecDepth 100000
open Go.RowKit
theorem TRecordType.vals_own {w:World} {L:List Nat} {x0:ByteArray} {x1:List ByteArray} {x2:Int} {vs:List Value} (h:Dat.OwnVals w L (TRecordType.mk x0 x1 x2).D vs):∃A1 c1 L1,L=L1∧vs=[.string x0,.slice A1 x1.length c1,.int .i64 x2]∧x0.size≤maxLen∧OwnRow w L1 1 A1 c1 (x1.map (fun x=>[Dat.str x]))∧InI x2:=by
 rw[TRecordType.D_mk]at h
 have hl:=h.length
 match vs,hl,h with
 | [u0,u1,u2],_,h =>
 simp only[Dat.OwnVals]at h
 obtain⟨M0,N0,e0,h0,M1,N1,e1,h1,M2,N2,e2,h2,en⟩:=h
 subst en
 subst e2
 subst e1
 subst e0
 obtain⟨rfl,rfl,g0⟩:=Dat.own_str.1 h0
 obtain⟨A1,c1,rfl,g1⟩:=Dat.own_row.1 h1
 obtain⟨rfl,rfl,g2⟩:=Dat.own_int.1 h2
 exact⟨A1,c1,M1,by simp only[List.nil_append,List.append_nil],by simp only[List.length_map],g0,g1,g2⟩
theorem TRecordType.own_mk {w:World} {x0:ByteArray} {x1:List ByteArray} {x2:Int} {A1:Option Addr} {c1:Nat} {L1:List Nat} (h0:x0.size≤maxLen) (h1:OwnRow w L1 1 A1 c1 (x1.map (fun x=>[Dat.str x]))) (h2:InI x2):Dat.OwnVals w (L1) (TRecordType.mk x0 x1 x2).D [.string x0,.slice A1 x1.length c1,.int .i64 x2]:=by
 rw[TRecordType.D_mk]
 exact⟨[],_,(List.nil_append _).symm,Dat.own_str.2 ⟨rfl,rfl,h0⟩,⟨L1,_,(List.append_nil _).symm,Dat.own_row.2 ⟨_,_,by simp only[List.length_map],h1⟩,⟨[],_,(List.nil_append _).symm,Dat.own_int.2 ⟨rfl,rfl,h2⟩,rfl⟩⟩⟩
def ToRecordTypeL (t:TRecordType):Prop:=∀(S:Nat→Prop) (w:World) (vs:List Value),Dat.HoldVals w S t.D vs→Dat.wtL t.D≤1048576 →
 Calls Tryz.prog 57 #[.agg vs.toArray] w (MadeVL w t.D)
set_option maxHeartbeats 800000 in
theorem toRecordTypeS_ofL (ks:List TRecordType) (IH:∀(i:Nat) (hi:i<ks.length),ToRecordTypeL ks[i]) (S:Nat→Prop) (w:World) (A:Option Addr) (c:Nat) (hR:Row w S 3 A c (ks.map TRecordType.D)) (hwt:ks.length+Dat.wtR (ks.map TRecordType.D)≤1048576) :
    Calls Tryz.prog 27 #[.slice A ks.length c] w (MadeRL w 3 (ks.map TRecordType.D)):=by
  have IH':=hide IH
  have HR:=hide hR
  have hlen:=hR.1
  have hcm:=hR.2.1
  simp only[List.length_map]at hlen
  unfold maxLen at hcm
  clear IH hR
  obtain⟨cur,hcur,hmk⟩:=make_rows (P:=Tryz.prog) (t:=31) (e:=92) (k:=3) ks.length (by omega) Tryz.underlying31 (by kernel_rfl)
  have HC:=hide hcur
  clear hcur
  have HW:=hide hwt
  clear hwt
  go_enter Tryz.func27,Tryz.ntmps27
  go_wp2_with (fail)
  have HF:=hide (FillO.start w 92 3 ks.length HC.out)
  clear hmk
  go_loopw [4] (fun iv wr=>∃k:Nat,k≤ks.length∧iv=.int .i64 k∧FillO wr w.heap.size 92 3 ks.length ((ks.map TRecordType.D).take k)∧Bel w wr) (fun iv _=>ks.length - (intOf iv).toNat)
  case atStart=>exact⟨0,Nat.zero_le _,rfl,HF.out,bl⟩
  case round =>
    obtain⟨k,hk,rfl,hF,hbw⟩:=hrel
    have HF1:=hide hF
    have hgl:=hF.lt
    clear hF HF
    rcases Nat.lt_or_ge k ks.length with hlt | hge
    · have hd:decide ((k:Int)<(ks.length:Int))=true:=by simp;omega
      have hi0:0≤(k:Int):=by omega
      have hi1:(k:Int)<(ks.length:Int):=by omega
      (obtain⟨b1,o1,x1_0,x1_1,x1_2,A1_1,C1_1,hA1,hS1,hl1,hx1,hv1,g1_0,g1_1,g1_2,c1_0,c1_1,c1_2⟩:=TRecordType.at HR.out k hlt;subst hA1;have HV1:=hide (Dat.HoldVals.bel hbw hv1);have hh1:=hbw.box b1 hl1;have hw1:=Nat.lt_of_lt_of_le hl1 (Bel.size hbw);replace c1_0:=(hh1 _).trans c1_0;replace c1_1:=(hh1 _).trans c1_1;replace c1_2:=(hh1 _).trans c1_2;have HX1:=hide hx1;have GR1_1:=hide g1_1;clear hh1 hv1 hx1 hS1 g1_1)
      have hw:=hide (Dat.wtR_take (ks.map TRecordType.D) k (by simpa using hlt))
      have hw':=hide (Dat.wtR_le (ks.map TRecordType.D) (k+1))
      have hwk:Dat.wtL ks[k].D≤1048576:=by have a:=hw.out;have b:=hw'.out;have c:=HW.out;rw[List.getElem_map]at a;omega
      go_wp2_with (fail)
      refine (IH'.out k hlt S _ _ (Dat.HoldVals.bel bl HV1.out) hwk).mono ?_
      rintro e w1 ⟨vs',L',rfl,hv',hnd',hlo',hb1⟩
      have HN':=hide hnd'
      have HL':=hide hlo'
      clear hnd' hlo'
      have HV':=hide hv'
      rw[HX1.out]at hv'
      obtain⟨A1,c1,rfl,-⟩:=TRecordType.vals (Dat.OwnVals.vals (S:=fun _=>True) (fun _ _=>trivial) hv')
      clear hv'
      obtain⟨y0,e0⟩:=(FillO.bel HF1.out (show Bel _ w1 from bl)).cell (i:=k*3) (by omega)
      obtain⟨y1,e1⟩:=(FillO.bel HF1.out (show Bel _ w1 from bl)).cell (i:=k*3+1) (by omega)
      obtain⟨y2,e2⟩:=(FillO.bel HF1.out (show Bel _ w1 from bl)).cell (i:=k*3+2) (by omega)
      have f0:=(FillO.bel HF1.out (show Bel _ w1 from bl)).free (k*3)
      have f1:=(FillO.bel HF1.out (show Bel _ w1 from bl)).free (k*3+1)
      have f2:=(FillO.bel HF1.out (show Bel _ w1 from bl)).free (k*3+2)
      go_wp2_with (fail)
      go_roundw
      case rel =>
       exact⟨k+1,by omega,by go_num,FillO.snoc3 HF1.out hlt rfl bl (Dat.OwnVals.bel bl HV'.out) HN'.out (fun b hb=>HL'.out b hb),bl⟩
      case measure=>simp[intOf];omega
    · have hd:decide ((k:Int)<(ks.length:Int))=false:=by simp;omega
      go_wp2_with (fail)
      go_returns
      obtain⟨L,q1,q2,q3⟩:=FillO.done HF1.out hge rfl (by unfold maxLen;omega)
      exact⟨some ⟨w.heap.size,0,none⟩,ks.length,L,by rw[List.length_map];rfl,q1,q2,q3,hbw⟩
set_option maxHeartbeats 2000000 in
theorem toRecordTypeL_any:∀t:TRecordType,ToRecordTypeL t:=by
 rintro⟨x0,x1,x2⟩
 intro S w vs hv hwt
 obtain⟨A1,c1,rfl,g0,hR1,g2⟩:=TRecordType.vals hv
 have R1:=hide hR1
 rw[TRecordType.D_mk]at hwt
 simp only[Dat.wtL,Dat.wt,List.length_map]at hwt
 have hw1:x1.length+Dat.wtR (x1.map (fun x=>[Dat.str x]))≤1048576:=by omega
 clear hv hwt hR1
 unfold maxLen at g0
 go_enter Tryz.func57,Tryz.ntmps57
 go_wp2_with (fail)
 refine (toStringSL_any x1 S _ _ _ (Row.bel bl R1.out) hw1).mono ?_
 rintro e w1 ⟨B1,d1,L1,rfl,hQ1,hN1,hL1,hb1⟩
 (have hz1:=hb1.sz;obtain⟨hk1_0,hf1_0,hl1_0,hn1_0⟩:=hb1.lay (w.heap.size);obtain⟨hk1_1,hf1_1,hl1_1,hn1_1⟩:=hb1.lay (w.heap.size+1);obtain⟨hk1_2,hf1_2,hl1_2,hn1_2⟩:=hb1.lay (w.heap.size+1+1))
 have N1:=hide hN1
 have V1:=hide (show ∀b,b∈L1→w.heap.size+2<b from fun b hb=>by have:=hL1 b hb;(try simp only[World.size_alloc,World.size_setCell,World.size_drew,World.heap_drewN]at this);omega)
 have U1:=hide hL1
 have T1:=hide (hQ1.lt)
 have Q1:=hide hQ1
 clear hQ1 hN1 hL1
 go_wp2_with (fail)
 exact bodyPost_ret (v:=.agg #[.string x0,.slice B1 x1.length d1,.int .i64 x2]) (by simp[results,Tryz.results57,go_sem,hk1_1,hf1_1,hk1_2,hf1_2]) rfl
  ⟨[.string x0,.slice B1 x1.length d1,.int .i64 x2],L1,rfl,TRecordType.own_mk (by unfold maxLen;omega) (OwnRow.offS (S:=fun b=>w.heap.size+2<b) osl (fun b hb=>V1.out b hb) Q1.out) g2,N1.out,fun b hb=>by have:=V1.out b hb;omega,bl⟩
theorem toRecordTypeSL_any (ks:List TRecordType) (S:Nat→Prop) (w:World) (A:Option Addr) (c:Nat) (hR:Row w S 3 A c (ks.map TRecordType.D)) (hwt:ks.length+Dat.wtR (ks.map TRecordType.D)≤1048576) :
  Calls Tryz.prog 27 #[.slice A ks.length c] w (MadeRL w 3 (ks.map TRecordType.D)):=toRecordTypeS_ofL ks (fun _ _=>toRecordTypeL_any _) S w A c hR hwt
theorem TRecordType.cnt_mk {x0:ByteArray} {x1:List ByteArray} {x2:Int}:Dat.cntC (TRecordType.mk x0 x1 x2).D=2+Dat.cntR (x1.map (fun x=>[Dat.str x])):=by
 simp only[TRecordType.D_mk,Dat.cntC,Dat.cnt];(try omega)
theorem TRecordType.mark_own {w:World} {m:Int} {x0:ByteArray} {x1:List ByteArray} {x2:Int} {A1:Option Addr} {c1:Nat} {L1:List Nat} (h0:0≤m) (hm:m+(2+Dat.cntR (x1.map (fun x=>[Dat.str x])):Nat)≤4611686018427387904) (h1:OwnRow w L1 1 A1 c1 (Dat.markR (m+1) (x1.map (fun x=>[Dat.str x])))):Dat.OwnVals w (L1) (Dat.markC m (TRecordType.mk x0 x1 x2).D) [.string (markT (m)),.slice A1 x1.length c1,.int .i64 (m+1+(Dat.cntR (x1.map (fun x=>[Dat.str x])):Nat))]:=by
 have e:Dat.markC m (TRecordType.mk x0 x1 x2).D=[.str (markT (m)),.row 1 (Dat.markR (m+1) (x1.map (fun x=>[Dat.str x]))),.int (m+1+(Dat.cntR (x1.map (fun x=>[Dat.str x])):Nat))]:=by
  simp only[TRecordType.D_mk,Dat.markC,Dat.mark,Dat.cnt]
  first | done | rfl | (simp only[Nat.cast_one];done) | (simp;done) | (push_cast;simp)
 rw[e]
 exact⟨[],_,(List.nil_append _).symm,Dat.own_str.2 ⟨rfl,rfl,Nat.le_trans (markT_size _) (by unfold maxLen;omega)⟩,⟨L1,_,(List.append_nil _).symm,Dat.own_row.2 ⟨_,_,by simp only[Dat.markR_length,List.length_map],h1⟩,⟨[],_,(List.nil_append _).symm,Dat.own_int.2 ⟨rfl,rfl,InI.of_le (by omega) (by omega)⟩,rfl⟩⟩⟩
theorem TRecordType.mcnt_le:∀t:TRecordType,Dat.cntC t.D≤16+16*Dat.wtL t.D:=by
 rintro⟨x0,x1,x2⟩
 have r1:=cntR_le_of (fun x=>[Dat.str x]) x1 (fun i hi=>by simp[Dat.cntC,Dat.cnt];omega)
 rw[TRecordType.cnt_mk,TRecordType.D_mk]
 simp only[Dat.wtL,Dat.wt,List.length_map]
 omega
theorem TRecordType.mark_vals {w:World} {S:Nat→Prop} {m:Int} {x0:ByteArray} {x1:List ByteArray} {x2:Int} {vs:List Value} (h:Dat.HoldVals w S (Dat.markC m (TRecordType.mk x0 x1 x2).D) vs):∃A1 c1,vs=[.string (markT (m)),.slice A1 x1.length c1,.int .i64 (m+1+(Dat.cntR (x1.map (fun x=>[Dat.str x])):Nat))]∧Row w S 1 A1 c1 (Dat.markR (m+1) (x1.map (fun x=>[Dat.str x]))):=by
 have e:Dat.markC m (TRecordType.mk x0 x1 x2).D=[.str (markT (m)),.row 1 (Dat.markR (m+1) (x1.map (fun x=>[Dat.str x]))),.int (m+1+(Dat.cntR (x1.map (fun x=>[Dat.str x])):Nat))]:=by
  simp only[TRecordType.D_mk,Dat.markC,Dat.mark,Dat.cnt]
  first | done | rfl | (simp only[Nat.cast_one];done) | (simp;done) | (push_cast;simp)
 rw[e]at h
 match vs,h with
 | [u0,u1,u2],h =>
 simp only[Dat.HoldVals]at h
 obtain⟨h0,h1,h2,-⟩:=h
 obtain⟨rfl,-⟩:=Dat.holds_str.1 h0
 obtain⟨A1,c1,rfl,g1⟩:=Dat.holds_row.1 h1
 obtain⟨rfl,-⟩:=Dat.holds_int.1 h2
 exact⟨A1,c1,by simp only[Dat.markR_length,List.length_map],g1⟩
set_option maxHeartbeats 2000000 in
theorem markRecordTypeS_any (ks:List TRecordType) (L:List Nat) (w:World) (A:Option Addr) (c:Nat) (k:Int) (hR:OwnRow w L 3 A c (ks.map TRecordType.D)) (hnd:L.Nodup) (h0:0≤k) (hb:k+(Dat.cntR (ks.map TRecordType.D):Nat)≤4611686018427387904) :
    Calls Tryz.prog 37 #[.slice A ks.length c,.int .i64 k] w (Marked w L 3 A c k (ks.map TRecordType.D)):=by
  have HR:=hide hR
  have HN:=hide hnd
  have hlen:=hR.1
  have hcm:=hR.2.1
  simp only[List.length_map]at hlen
  unfold maxLen at hcm
  clear hR hnd
  go_enter Tryz.func37,Tryz.ntmps37
  go_wp2_with (fail)
  go_loopw [1,5] (fun kv iv wr=>∃i:Nat,i≤ks.length∧iv=.int .i64 i∧kv=.int .i64 (k+(Dat.cntR ((ks.map TRecordType.D).take i):Nat))∧Hid (OwnRow wr L 3 A c (Dat.markTo k i (ks.map TRecordType.D)))∧OffS (fun x=>x∉L) w wr) (fun _ iv _=>ks.length - (intOf iv).toNat)
  case atStart=>exact⟨0,Nat.zero_le _,rfl,by simp[Dat.cntR],(by rw[Dat.markTo_zero];exact HR.out),osl⟩
  case round =>
    obtain⟨i,hi,rfl,rfl,hO,hoff⟩:=hrel
    rcases Nat.lt_or_ge i ks.length with hlt | hge
    · have hd:decide ((i:Int)<(ks.length:Int))=true:=by simp;omega
      have hi0:0≤(i:Int):=by omega
      have hi1:(i:Int)<(ks.length:Int):=by omega
      obtain⟨x0,x1,x2,hx⟩:∃x0 x1 x2,ks[i]=.mk x0 x1 x2:=by cases ks[i];exact⟨_,_,_,rfl⟩
      have HX:=hide hx
      have ht:=Dat.cntR_take (ks.map TRecordType.D) i (by simpa using hlt)
      have hle:=Dat.cntR_le (ks.map TRecordType.D) (i+1)
      simp only[List.getElem_map,hx,TRecordType.cnt_mk]at ht
      obtain⟨q1,hq1⟩:∃q,Dat.cntR (x1.map (fun x=>[Dat.str x]))=q:=⟨_,rfl⟩
      simp only[hq1]at ht
      obtain⟨m,hm⟩:∃m:Int,k+(Dat.cntR ((ks.map TRecordType.D).take i):Nat)=m:=⟨_,rfl⟩
      have hm0:0≤m:=by omega
      have hm1:m+2+(q1:Nat)≤4611686018427387904:=by omega
      have HE:=hide (show k+(Dat.cntR ((ks.map TRecordType.D).take (i+1)):Nat)=m+2+(q1:Nat) by omega)
      rw[hm]
      have HM:=hide hm
      have HQ1:=hide hq1
      obtain⟨b,o,L1,Le,L2,vs,rfl,hb1,hf1,hLe,hv,hvl,hc,hput⟩:=OwnRow.at hO.out i (by rw[Dat.markTo_length];simpa using hlt)
      rw[Dat.markTo_get k i _ (by simpa using hlt),List.getElem_map,hx]at hv
      obtain⟨A1,c1,L_1,hEL,rfl,g0,g1,g2⟩:=TRecordType.vals_own hv
      have hEL2:=hEL.symm
      clear hEL
      subst hEL2
      have z0:wr.cell? ⟨b,o+i*3,none⟩=some (.string x0):=by simpa using hc 0 (by decide)
      have z1:wr.cell? ⟨b,o+i*3+1,none⟩=some (.slice A1 x1.length c1):=by simpa using hc 1 (by decide)
      have z2:wr.cell? ⟨b,o+i*3+2,none⟩=some (.int .i64 x2):=by simpa using hc 2 (by decide)
      obtain⟨hbL,hLeL,hbLe,hnLe,hrest⟩:=own_parts hLe HN.out
      have HNL1:=hide hnLe
      have HI1:=hide (show ∀x,x∈L_1→x∈(L_1)from fun x h=>by simp[h])
      have hb_1:b∉L_1:=fun h=>hbLe (HI1.out b h)
      have G1:=hide g1
      unfold maxLen at g0
      have HP:=hide hput
      have HLe:=hide hLe
      have HL2:=hide hLeL
      have HRS:=hide hrest
      clear hv hc hx ht hle hm hq1 hnLe g1 hput hLe hLeL hrest
      go_wp2_with (fail)
      refine (markText_any _ _ (by omega) (by omega)).mono ?_
      rintro e w1 ⟨rfl,hb101⟩
      have hz1:=hb101.size
      (try simp only[World.size_alloc,World.size_setCell,World.size_drew,World.heap_drewN]at hz1)
      have hk1:=hb101.box b (by first | (simp;done) | (simp;omega) | omega)
      have hf_1:=hb101.boxf b (by first | (simp;done) | (simp;omega) | omega)
      have hl1:b<w1.heap.size:=by omega
      go_wp2_with (fail)
      refine (markStringS_any x1 L_1 _ A1 c1 _ (OwnRow.offS (S:=fun x=>x∈L_1) (w:=wr) osl (fun x hx=>hx) G1.out) HNL1.out (by omega) (by rw[HQ1.out];omega)).mono ?_
      rintro e w2 ⟨rfl,hO1,ho2⟩
      rw[HQ1.out]
      have HO1:=hide hO1
      clear hO1
      have hz2:=ho2.size
      (try simp only[World.size_alloc,World.size_setCell,World.size_drew,World.heap_drewN]at hz2)
      have hss2:=ho2.same b hb_1 (by first | (simp;done) | (simp;omega) | omega)
      have hk2:=hss2.1
      have hf_2:=hss2.2
      have hl2:b<w2.heap.size:=by omega
      have hoL2:=OffS.narrow (S':=fun x=>x∉L) ho2 (fun x hx h=>hx (HL2.out x (HI1.out x h)))
      have hoE2:=OffS.narrow (S':=fun x=>x∉(L_1)∧x≠b) ho2 (fun x hx h=>hx.1 (HI1.out x h))
      clear hss2 ho2
      go_wp2_with (fail)
      go_roundw
      case rel =>
       refine⟨i+1,by omega,by go_num,by rw[HE.out];first | done | go_num,?_,osl⟩
       rw[←Dat.markTo_succ k i _ (by simpa using hlt)]
       refine hide ?_
       rw[List.getElem_map,HX.out,HM.out]
       refine HP.out _ _ [.string (markT (m)),.slice A1 x1.length c1,.int .i64 (m+1+(q1:Nat))] (by (try simp only[←HQ1.out]);exact TRecordType.mark_own (m:=m) (x0:=x0) (x1:=x1) (x2:=x2) (A1:=A1) (c1:=c1) (L1:=L_1) hm0 (by (try simp only[HQ1.out]);omega) (by (try simp only[HQ1.out]);exact OwnRow.offS (S:=fun x=>x∈L_1) (w:=w2) osl (fun x hx=>hx) HO1.out)) rfl (by (try simp only[World.size_alloc,World.size_setCell,World.size_drew,World.heap_drewN]);omega) (fun z hz=>?_) (fun z=>by simp[go_sem,hk1,hf_1,hk2,hf_2,hf1]) (fun z hz=>?_) (cells_of3 (by simp[go_sem,hk1,hf_1,hk2,hf_2,z0,z1,z2]) (by simp[go_sem,hk1,hf_1,hk2,hf_2,z0,z1,z2]) (by simp[go_sem,hk1,hf_1,hk2,hf_2,z0,z1,z2]))
       · exact OffS.same (S:=fun x=>x∉(L_1)∧x≠b) (w:=wr) osl z ⟨(HRS.out z hz).1,(HRS.out z hz).2.1⟩ (hO.out.lt z (HRS.out z hz).2.2)
       · have n0:z≠o+i*3:=by omega
         have n1:z≠o+i*3+1:=by omega
         have n2:z≠o+i*3+2:=by omega
         simp[go_sem,hk1,hf_1,hk2,hf_2,n0,n1,n2]
      case measure=>simp[intOf];omega
    · have hd:decide ((i:Int)<(ks.length:Int))=false:=by simp;omega
      obtain rfl:i=ks.length:=by omega
      have HO2:=hide (show OwnRow wr L 3 A c (Dat.markR k (ks.map TRecordType.D))from by have:=hO.out;rw[Dat.markTo_all _ _ _ (by simp)]at this;exact this)
      go_wp2_with (fail)
      go_returns
      rw[List.take_of_length_le (by simp)]
      exact⟨rfl,HO2.out,hoff⟩
end Go.Proofs.YtehcjlkgfgpjnaaGreatDoor
namespace Go.Proofs.YtehcjlkgfgpjnaaGreatDoor
set_option linter.unusedVariables false
set_option linter.unusedSimpArgs false
set_option maxRecDepth 100000
open Go.RowKit
theorem TValue.vals_own {w:World} {L:List Nat} {x0:Int} {x1:Int} {x2:Int} {x3:ByteArray} {x4:Int} {x5:Int} {vs:List Value} (h:Dat.OwnVals w L (TValue.mk x0 x1 x2 x3 x4 x5).D vs):L=[]∧vs=[.int .i64 x0,.int .i64 x1,.int .i64 x2,.string x3,.int .i64 x4,.int .i64 x5]∧InI x0∧InI x1∧InI x2∧x3.size≤maxLen∧InI x4∧InI x5:=by
 rw[TValue.D_mk]at h
 have hl:=h.length
 match vs,hl,h with
 | [u0,u1,u2,u3,u4,u5],_,h =>
 simp only[Dat.OwnVals]at h
 obtain⟨M0,N0,e0,h0,M1,N1,e1,h1,M2,N2,e2,h2,M3,N3,e3,h3,M4,N4,e4,h4,M5,N5,e5,h5,en⟩:=h
 subst en
 subst e5
 subst e4
 subst e3
 subst e2
 subst e1
 subst e0
 obtain⟨rfl,rfl,g0⟩:=Dat.own_int.1 h0
 obtain⟨rfl,rfl,g1⟩:=Dat.own_int.1 h1
 obtain⟨rfl,rfl,g2⟩:=Dat.own_int.1 h2
 obtain⟨rfl,rfl,g3⟩:=Dat.own_str.1 h3
 obtain⟨rfl,rfl,g4⟩:=Dat.own_int.1 h4
 obtain⟨rfl,rfl,g5⟩:=Dat.own_int.1 h5
 exact⟨by simp only[List.nil_append,List.append_nil],by simp only[List.length_map],g0,g1,g2,g3,g4,g5⟩
theorem TValue.own_mk {w:World} {x0:Int} {x1:Int} {x2:Int} {x3:ByteArray} {x4:Int} {x5:Int} (h0:InI x0) (h1:InI x1) (h2:InI x2) (h3:x3.size≤maxLen) (h4:InI x4) (h5:InI x5):Dat.OwnVals w ([]) (TValue.mk x0 x1 x2 x3 x4 x5).D [.int .i64 x0,.int .i64 x1,.int .i64 x2,.string x3,.int .i64 x4,.int .i64 x5]:=by
 rw[TValue.D_mk]
 exact⟨[],_,(List.nil_append _).symm,Dat.own_int.2 ⟨rfl,rfl,h0⟩,⟨[],_,(List.nil_append _).symm,Dat.own_int.2 ⟨rfl,rfl,h1⟩,⟨[],_,(List.nil_append _).symm,Dat.own_int.2 ⟨rfl,rfl,h2⟩,⟨[],_,(List.nil_append _).symm,Dat.own_str.2 ⟨rfl,rfl,h3⟩,⟨[],_,(List.nil_append _).symm,Dat.own_int.2 ⟨rfl,rfl,h4⟩,⟨[],_,(List.nil_append _).symm,Dat.own_int.2 ⟨rfl,rfl,h5⟩,rfl⟩⟩⟩⟩⟩⟩
def ToValueL (t:TValue):Prop:=∀(S:Nat→Prop) (w:World) (vs:List Value),Dat.HoldVals w S t.D vs→Dat.wtL t.D≤1048576 →
 Calls Tryz.prog 59 #[.agg vs.toArray] w (MadeVL w t.D)
set_option maxHeartbeats 800000 in
theorem toValueS_ofL (ks:List TValue) (IH:∀(i:Nat) (hi:i<ks.length),ToValueL ks[i]) (S:Nat→Prop) (w:World) (A:Option Addr) (c:Nat) (hR:Row w S 6 A c (ks.map TValue.D)) (hwt:ks.length+Dat.wtR (ks.map TValue.D)≤1048576) :
    Calls Tryz.prog 29 #[.slice A ks.length c] w (MadeRL w 6 (ks.map TValue.D)):=by
  have IH':=hide IH
  have HR:=hide hR
  have hlen:=hR.1
  have hcm:=hR.2.1
  simp only[List.length_map]at hlen
  unfold maxLen at hcm
  clear IH hR
  obtain⟨cur,hcur,hmk⟩:=make_rows (P:=Tryz.prog) (t:=33) (e:=48) (k:=6) ks.length (by omega) Tryz.underlying33 (by kernel_rfl)
  have HC:=hide hcur
  clear hcur
  have HW:=hide hwt
  clear hwt
  go_enter Tryz.func29,Tryz.ntmps29
  go_wp2_with (fail)
  have HF:=hide (FillO.start w 48 6 ks.length HC.out)
  clear hmk
  go_loopw [4] (fun iv wr=>∃k:Nat,k≤ks.length∧iv=.int .i64 k∧FillO wr w.heap.size 48 6 ks.length ((ks.map TValue.D).take k)∧Bel w wr) (fun iv _=>ks.length - (intOf iv).toNat)
  case atStart=>exact⟨0,Nat.zero_le _,rfl,HF.out,bl⟩
  case round =>
    obtain⟨k,hk,rfl,hF,hbw⟩:=hrel
    have HF1:=hide hF
    have hgl:=hF.lt
    clear hF HF
    rcases Nat.lt_or_ge k ks.length with hlt | hge
    · have hd:decide ((k:Int)<(ks.length:Int))=true:=by simp;omega
      have hi0:0≤(k:Int):=by omega
      have hi1:(k:Int)<(ks.length:Int):=by omega
      (obtain⟨b1,o1,x1_0,x1_1,x1_2,x1_3,x1_4,x1_5,hA1,hS1,hl1,hx1,hv1,g1_0,g1_1,g1_2,g1_3,g1_4,g1_5,c1_0,c1_1,c1_2,c1_3,c1_4,c1_5⟩:=TValue.at HR.out k hlt;subst hA1;have HV1:=hide (Dat.HoldVals.bel hbw hv1);have hh1:=hbw.box b1 hl1;have hw1:=Nat.lt_of_lt_of_le hl1 (Bel.size hbw);replace c1_0:=(hh1 _).trans c1_0;replace c1_1:=(hh1 _).trans c1_1;replace c1_2:=(hh1 _).trans c1_2;replace c1_3:=(hh1 _).trans c1_3;replace c1_4:=(hh1 _).trans c1_4;replace c1_5:=(hh1 _).trans c1_5;have HX1:=hide hx1;clear hh1 hv1 hx1 hS1)
      have hw:=hide (Dat.wtR_take (ks.map TValue.D) k (by simpa using hlt))
      have hw':=hide (Dat.wtR_le (ks.map TValue.D) (k+1))
      have hwk:Dat.wtL ks[k].D≤1048576:=by have a:=hw.out;have b:=hw'.out;have c:=HW.out;rw[List.getElem_map]at a;omega
      go_wp2_with (fail)
      refine (IH'.out k hlt S _ _ (Dat.HoldVals.bel bl HV1.out) hwk).mono ?_
      rintro e w1 ⟨vs',L',rfl,hv',hnd',hlo',hb1⟩
      have HN':=hide hnd'
      have HL':=hide hlo'
      clear hnd' hlo'
      have HV':=hide hv'
      rw[HX1.out]at hv'
      obtain⟨rfl,-⟩:=TValue.vals (Dat.OwnVals.vals (S:=fun _=>True) (fun _ _=>trivial) hv')
      clear hv'
      obtain⟨y0,e0⟩:=(FillO.bel HF1.out (show Bel _ w1 from bl)).cell (i:=k*6) (by omega)
      obtain⟨y1,e1⟩:=(FillO.bel HF1.out (show Bel _ w1 from bl)).cell (i:=k*6+1) (by omega)
      obtain⟨y2,e2⟩:=(FillO.bel HF1.out (show Bel _ w1 from bl)).cell (i:=k*6+2) (by omega)
      obtain⟨y3,e3⟩:=(FillO.bel HF1.out (show Bel _ w1 from bl)).cell (i:=k*6+3) (by omega)
      obtain⟨y4,e4⟩:=(FillO.bel HF1.out (show Bel _ w1 from bl)).cell (i:=k*6+4) (by omega)
      obtain⟨y5,e5⟩:=(FillO.bel HF1.out (show Bel _ w1 from bl)).cell (i:=k*6+5) (by omega)
      have f0:=(FillO.bel HF1.out (show Bel _ w1 from bl)).free (k*6)
      have f1:=(FillO.bel HF1.out (show Bel _ w1 from bl)).free (k*6+1)
      have f2:=(FillO.bel HF1.out (show Bel _ w1 from bl)).free (k*6+2)
      have f3:=(FillO.bel HF1.out (show Bel _ w1 from bl)).free (k*6+3)
      have f4:=(FillO.bel HF1.out (show Bel _ w1 from bl)).free (k*6+4)
      have f5:=(FillO.bel HF1.out (show Bel _ w1 from bl)).free (k*6+5)
      go_wp2_with (fail)
      go_roundw
      case rel =>
       exact⟨k+1,by omega,by go_num,FillO.snoc6 HF1.out hlt rfl bl (Dat.OwnVals.bel bl HV'.out) HN'.out (fun b hb=>HL'.out b hb),bl⟩
      case measure=>simp[intOf];omega
    · have hd:decide ((k:Int)<(ks.length:Int))=false:=by simp;omega
      go_wp2_with (fail)
      go_returns
      obtain⟨L,q1,q2,q3⟩:=FillO.done HF1.out hge rfl (by unfold maxLen;omega)
      exact⟨some ⟨w.heap.size,0,none⟩,ks.length,L,by rw[List.length_map];rfl,q1,q2,q3,hbw⟩
set_option maxHeartbeats 2000000 in
theorem toValueL_any:∀t:TValue,ToValueL t:=by
 rintro⟨x0,x1,x2,x3,x4,x5⟩
 intro S w vs hv hwt
 obtain⟨rfl,g0,g1,g2,g3,g4,g5⟩:=TValue.vals hv
 rw[TValue.D_mk]at hwt
 simp only[Dat.wtL,Dat.wt,List.length_map]at hwt
 clear hv hwt 
 unfold maxLen at g3
 go_enter Tryz.func59,Tryz.ntmps59
 go_wp2_with (fail)
 refine (toCset_flat x4 x5 _).mono ?_
 rintro e w1 ⟨rfl,hb1⟩
 (have hz1:=hb1.sz;obtain⟨hk1_0,hf1_0,hl1_0,hn1_0⟩:=hb1.lay (w.heap.size);obtain⟨hk1_1,hf1_1,hl1_1,hn1_1⟩:=hb1.lay (w.heap.size+1);obtain⟨hk1_2,hf1_2,hl1_2,hn1_2⟩:=hb1.lay (w.heap.size+1+1))
 go_wp2_with (fail)
 exact bodyPost_ret (v:=.agg #[.int .i64 x0,.int .i64 x1,.int .i64 x2,.string x3,.int .i64 x4,.int .i64 x5]) (by simp[results,Tryz.results59,go_sem,hk1_1,hf1_1,hk1_2,hf1_2]) rfl
  ⟨[.int .i64 x0,.int .i64 x1,.int .i64 x2,.string x3,.int .i64 x4,.int .i64 x5],[],rfl,TValue.own_mk g0 g1 g2 (by unfold maxLen;omega) g4 g5,List.nodup_nil,fun b hb=>by simp at hb,bl⟩
theorem toValueSL_any (ks:List TValue) (S:Nat→Prop) (w:World) (A:Option Addr) (c:Nat) (hR:Row w S 6 A c (ks.map TValue.D)) (hwt:ks.length+Dat.wtR (ks.map TValue.D)≤1048576) :
  Calls Tryz.prog 29 #[.slice A ks.length c] w (MadeRL w 6 (ks.map TValue.D)):=toValueS_ofL ks (fun _ _=>toValueL_any _) S w A c hR hwt
theorem TValue.cnt_mk {x0:Int} {x1:Int} {x2:Int} {x3:ByteArray} {x4:Int} {x5:Int}:Dat.cntC (TValue.mk x0 x1 x2 x3 x4 x5).D=6:=by
 simp only[TValue.D_mk,Dat.cntC,Dat.cnt];(try omega)
theorem TValue.mark_own {w:World} {m:Int} {x0:Int} {x1:Int} {x2:Int} {x3:ByteArray} {x4:Int} {x5:Int} (h0:0≤m) (hm:m+(6:Nat)≤4611686018427387904):Dat.OwnVals w ([]) (Dat.markC m (TValue.mk x0 x1 x2 x3 x4 x5).D) [.int .i64 (m),.int .i64 (m+1),.int .i64 (m+1+1),.string (markT (m+1+1+1)),.int .i64 (m+1+1+1+1),.int .i64 (m+1+1+1+1+1)]:=by
 have e:Dat.markC m (TValue.mk x0 x1 x2 x3 x4 x5).D=[.int (m),.int (m+1),.int (m+1+1),.str (markT (m+1+1+1)),.int (m+1+1+1+1),.int (m+1+1+1+1+1)]:=by
  simp only[TValue.D_mk,Dat.markC,Dat.mark,Dat.cnt]
  first | done | rfl | (simp only[Nat.cast_one];done) | (simp;done) | (push_cast;simp)
 rw[e]
 exact⟨[],_,(List.nil_append _).symm,Dat.own_int.2 ⟨rfl,rfl,InI.of_le (by omega) (by omega)⟩,⟨[],_,(List.nil_append _).symm,Dat.own_int.2 ⟨rfl,rfl,InI.of_le (by omega) (by omega)⟩,⟨[],_,(List.nil_append _).symm,Dat.own_int.2 ⟨rfl,rfl,InI.of_le (by omega) (by omega)⟩,⟨[],_,(List.nil_append _).symm,Dat.own_str.2 ⟨rfl,rfl,Nat.le_trans (markT_size _) (by unfold maxLen;omega)⟩,⟨[],_,(List.nil_append _).symm,Dat.own_int.2 ⟨rfl,rfl,InI.of_le (by omega) (by omega)⟩,⟨[],_,(List.nil_append _).symm,Dat.own_int.2 ⟨rfl,rfl,InI.of_le (by omega) (by omega)⟩,rfl⟩⟩⟩⟩⟩⟩
theorem TValue.mcnt_le:∀t:TValue,Dat.cntC t.D≤16+16*Dat.wtL t.D:=by
 rintro⟨x0,x1,x2,x3,x4,x5⟩
 rw[TValue.cnt_mk,TValue.D_mk]
 simp only[Dat.wtL,Dat.wt,List.length_map]
 omega
theorem TValue.mark_vals {w:World} {S:Nat→Prop} {m:Int} {x0:Int} {x1:Int} {x2:Int} {x3:ByteArray} {x4:Int} {x5:Int} {vs:List Value} (h:Dat.HoldVals w S (Dat.markC m (TValue.mk x0 x1 x2 x3 x4 x5).D) vs):vs=[.int .i64 (m),.int .i64 (m+1),.int .i64 (m+1+1),.string (markT (m+1+1+1)),.int .i64 (m+1+1+1+1),.int .i64 (m+1+1+1+1+1)]:=by
 have e:Dat.markC m (TValue.mk x0 x1 x2 x3 x4 x5).D=[.int (m),.int (m+1),.int (m+1+1),.str (markT (m+1+1+1)),.int (m+1+1+1+1),.int (m+1+1+1+1+1)]:=by
  simp only[TValue.D_mk,Dat.markC,Dat.mark,Dat.cnt]
  first | done | rfl | (simp only[Nat.cast_one];done) | (simp;done) | (push_cast;simp)
 rw[e]at h
 match vs,h with
 | [u0,u1,u2,u3,u4,u5],h =>
 simp only[Dat.HoldVals]at h
 obtain⟨h0,h1,h2,h3,h4,h5,-⟩:=h
 obtain⟨rfl,-⟩:=Dat.holds_int.1 h0
 obtain⟨rfl,-⟩:=Dat.holds_int.1 h1
 obtain⟨rfl,-⟩:=Dat.holds_int.1 h2
 obtain⟨rfl,-⟩:=Dat.holds_str.1 h3
 obtain⟨rfl,-⟩:=Dat.holds_int.1 h4
 obtain⟨rfl,-⟩:=Dat.holds_int.1 h5
 exact rfl
set_option maxHeartbeats 2000000 in
theorem markValueS_any (ks:List TValue) (L:List Nat) (w:World) (A:Option Addr) (c:Nat) (k:Int) (hR:OwnRow w L 6 A c (ks.map TValue.D)) (hnd:L.Nodup) (h0:0≤k) (hb:k+(Dat.cntR (ks.map TValue.D):Nat)≤4611686018427387904) :
    Calls Tryz.prog 39 #[.slice A ks.length c,.int .i64 k] w (Marked w L 6 A c k (ks.map TValue.D)):=by
  have HR:=hide hR
  have HN:=hide hnd
  have hlen:=hR.1
  have hcm:=hR.2.1
  simp only[List.length_map]at hlen
  unfold maxLen at hcm
  clear hR hnd
  go_enter Tryz.func39,Tryz.ntmps39
  go_wp2_with (fail)
  go_loopw [1,5] (fun kv iv wr=>∃i:Nat,i≤ks.length∧iv=.int .i64 i∧kv=.int .i64 (k+(Dat.cntR ((ks.map TValue.D).take i):Nat))∧Hid (OwnRow wr L 6 A c (Dat.markTo k i (ks.map TValue.D)))∧OffS (fun x=>x∉L) w wr) (fun _ iv _=>ks.length - (intOf iv).toNat)
  case atStart=>exact⟨0,Nat.zero_le _,rfl,by simp[Dat.cntR],(by rw[Dat.markTo_zero];exact HR.out),osl⟩
  case round =>
    obtain⟨i,hi,rfl,rfl,hO,hoff⟩:=hrel
    rcases Nat.lt_or_ge i ks.length with hlt | hge
    · have hd:decide ((i:Int)<(ks.length:Int))=true:=by simp;omega
      have hi0:0≤(i:Int):=by omega
      have hi1:(i:Int)<(ks.length:Int):=by omega
      obtain⟨x0,x1,x2,x3,x4,x5,hx⟩:∃x0 x1 x2 x3 x4 x5,ks[i]=.mk x0 x1 x2 x3 x4 x5:=by cases ks[i];exact⟨_,_,_,_,_,_,rfl⟩
      have HX:=hide hx
      have ht:=Dat.cntR_take (ks.map TValue.D) i (by simpa using hlt)
      have hle:=Dat.cntR_le (ks.map TValue.D) (i+1)
      simp only[List.getElem_map,hx,TValue.cnt_mk]at ht
      obtain⟨m,hm⟩:∃m:Int,k+(Dat.cntR ((ks.map TValue.D).take i):Nat)=m:=⟨_,rfl⟩
      have hm0:0≤m:=by omega
      have hm1:m+6≤4611686018427387904:=by omega
      have HE:=hide (show k+(Dat.cntR ((ks.map TValue.D).take (i+1)):Nat)=m+6 by omega)
      rw[hm]
      have HM:=hide hm
      obtain⟨b,o,L1,Le,L2,vs,rfl,hb1,hf1,hLe,hv,hvl,hc,hput⟩:=OwnRow.at hO.out i (by rw[Dat.markTo_length];simpa using hlt)
      rw[Dat.markTo_get k i _ (by simpa using hlt),List.getElem_map,hx]at hv
      obtain⟨hEL,rfl,g0,g1,g2,g3,g4,g5⟩:=TValue.vals_own hv
      have hEL2:=hEL.symm
      clear hEL
      subst hEL2
      have z0:wr.cell? ⟨b,o+i*6,none⟩=some (.int .i64 x0):=by simpa using hc 0 (by decide)
      have z1:wr.cell? ⟨b,o+i*6+1,none⟩=some (.int .i64 x1):=by simpa using hc 1 (by decide)
      have z2:wr.cell? ⟨b,o+i*6+2,none⟩=some (.int .i64 x2):=by simpa using hc 2 (by decide)
      have z3:wr.cell? ⟨b,o+i*6+3,none⟩=some (.string x3):=by simpa using hc 3 (by decide)
      have z4:wr.cell? ⟨b,o+i*6+4,none⟩=some (.int .i64 x4):=by simpa using hc 4 (by decide)
      have z5:wr.cell? ⟨b,o+i*6+5,none⟩=some (.int .i64 x5):=by simpa using hc 5 (by decide)
      obtain⟨hbL,hLeL,hbLe,hnLe,hrest⟩:=own_parts hLe HN.out
      unfold maxLen at g3
      have HP:=hide hput
      have HLe:=hide hLe
      have HL2:=hide hLeL
      have HRS:=hide hrest
      clear hv hc hx ht hle hm hnLe hput hLe hLeL hrest
      go_wp2_with (fail)
      refine (markText_any _ _ (by omega) (by omega)).mono ?_
      rintro e w1 ⟨rfl,hb101⟩
      have hz1:=hb101.size
      (try simp only[World.size_alloc,World.size_setCell,World.size_drew,World.heap_drewN]at hz1)
      have hk1:=hb101.box b (by first | (simp;done) | (simp;omega) | omega)
      have hf_1:=hb101.boxf b (by first | (simp;done) | (simp;omega) | omega)
      have hl1:b<w1.heap.size:=by omega
      go_wp2_with (fail)
      go_roundw
      case rel =>
       refine⟨i+1,by omega,by go_num,by rw[HE.out];first | done | go_num,?_,osl⟩
       rw[←Dat.markTo_succ k i _ (by simpa using hlt)]
       refine hide ?_
       rw[List.getElem_map,HX.out,HM.out]
       refine HP.out _ _ [.int .i64 (m),.int .i64 (m+1),.int .i64 (m+1+1),.string (markT (m+1+1+1)),.int .i64 (m+1+1+1+1),.int .i64 (m+1+1+1+1+1)] (TValue.mark_own (m:=m) (x0:=x0) (x1:=x1) (x2:=x2) (x3:=x3) (x4:=x4) (x5:=x5) hm0 (by omega)) rfl (by (try simp only[World.size_alloc,World.size_setCell,World.size_drew,World.heap_drewN]);omega) (fun z hz=>?_) (fun z=>by simp[go_sem,hk1,hf_1,hf1]) (fun z hz=>?_) (cells_of6 (by simp[go_sem,hk1,hf_1,z0,z1,z2,z3,z4,z5]) (by simp[go_sem,hk1,hf_1,z0,z1,z2,z3,z4,z5]) (by simp[go_sem,hk1,hf_1,z0,z1,z2,z3,z4,z5]) (by simp[go_sem,hk1,hf_1,z0,z1,z2,z3,z4,z5]) (by simp[go_sem,hk1,hf_1,z0,z1,z2,z3,z4,z5]) (by simp[go_sem,hk1,hf_1,z0,z1,z2,z3,z4,z5]))
       · exact OffS.same (S:=fun x=>x∉([])∧x≠b) (w:=wr) osl z ⟨(HRS.out z hz).1,(HRS.out z hz).2.1⟩ (hO.out.lt z (HRS.out z hz).2.2)
       · have n0:z≠o+i*6:=by omega
         have n1:z≠o+i*6+1:=by omega
         have n2:z≠o+i*6+2:=by omega
         have n3:z≠o+i*6+3:=by omega
         have n4:z≠o+i*6+4:=by omega
         have n5:z≠o+i*6+5:=by omega
         simp[go_sem,hk1,hf_1,n0,n1,n2,n3,n4,n5]
      case measure=>simp[intOf];omega
    · have hd:decide ((i:Int)<(ks.length:Int))=false:=by simp;omega
      obtain rfl:i=ks.length:=by omega
      have HO2:=hide (show OwnRow wr L 6 A c (Dat.markR k (ks.map TValue.D))from by have:=hO.out;rw[Dat.markTo_all _ _ _ (by simp)]at this;exact this)
      go_wp2_with (fail)
      go_returns
      rw[List.take_of_length_le (by simp)]
      exact⟨rfl,HO2.out,hoff⟩
end Go.Proofs.YtehcjlkgfgpjnaaGreatDoor
namespace Go.Proofs.YtehcjlkgfgpjnaaGreatDoor
set_option linter.unusedVariables false
set_option linter.unusedSimpArgs false
set_option maxRecDepth 100000
open Go.RowKit
theorem TObject.vals_own {w:World} {L:List Nat} {x0:Int} {x1:Int} {x2:Int} {x3:List TValue} {x4:List TValue} {vs:List Value} (h:Dat.OwnVals w L (TObject.mk x0 x1 x2 x3 x4).D vs):∃A3 c3 L3 A4 c4 L4,L=L3++L4∧vs=[.int .i64 x0,.int .i64 x1,.int .i64 x2,.slice A3 x3.length c3,.slice A4 x4.length c4]∧InI x0∧InI x1∧InI x2∧OwnRow w L3 6 A3 c3 (x3.map TValue.D)∧OwnRow w L4 6 A4 c4 (x4.map TValue.D):=by
 rw[TObject.D_mk]at h
 have hl:=h.length
 match vs,hl,h with
 | [u0,u1,u2,u3,u4],_,h =>
 simp only[Dat.OwnVals]at h
 obtain⟨M0,N0,e0,h0,M1,N1,e1,h1,M2,N2,e2,h2,M3,N3,e3,h3,M4,N4,e4,h4,en⟩:=h
 subst en
 subst e4
 subst e3
 subst e2
 subst e1
 subst e0
 obtain⟨rfl,rfl,g0⟩:=Dat.own_int.1 h0
 obtain⟨rfl,rfl,g1⟩:=Dat.own_int.1 h1
 obtain⟨rfl,rfl,g2⟩:=Dat.own_int.1 h2
 obtain⟨A3,c3,rfl,g3⟩:=Dat.own_row.1 h3
 obtain⟨A4,c4,rfl,g4⟩:=Dat.own_row.1 h4
 exact⟨A3,c3,M3,A4,c4,M4,by simp only[List.nil_append,List.append_nil],by simp only[List.length_map],g0,g1,g2,g3,g4⟩
theorem TObject.own_mk {w:World} {x0:Int} {x1:Int} {x2:Int} {x3:List TValue} {x4:List TValue} {A3:Option Addr} {c3:Nat} {L3:List Nat} {A4:Option Addr} {c4:Nat} {L4:List Nat} (h0:InI x0) (h1:InI x1) (h2:InI x2) (h3:OwnRow w L3 6 A3 c3 (x3.map TValue.D)) (h4:OwnRow w L4 6 A4 c4 (x4.map TValue.D)):Dat.OwnVals w (L3++L4) (TObject.mk x0 x1 x2 x3 x4).D [.int .i64 x0,.int .i64 x1,.int .i64 x2,.slice A3 x3.length c3,.slice A4 x4.length c4]:=by
 rw[TObject.D_mk]
 exact⟨[],_,(List.nil_append _).symm,Dat.own_int.2 ⟨rfl,rfl,h0⟩,⟨[],_,(List.nil_append _).symm,Dat.own_int.2 ⟨rfl,rfl,h1⟩,⟨[],_,(List.nil_append _).symm,Dat.own_int.2 ⟨rfl,rfl,h2⟩,⟨L3,_,rfl,Dat.own_row.2 ⟨_,_,by simp only[List.length_map],h3⟩,⟨L4,_,(List.append_nil _).symm,Dat.own_row.2 ⟨_,_,by simp only[List.length_map],h4⟩,rfl⟩⟩⟩⟩⟩
def ToObjectL (t:TObject):Prop:=∀(S:Nat→Prop) (w:World) (vs:List Value),Dat.HoldVals w S t.D vs→Dat.wtL t.D≤1048576 →
 Calls Tryz.prog 58 #[.agg vs.toArray] w (MadeVL w t.D)
set_option maxHeartbeats 800000 in
theorem toObjectS_ofL (ks:List TObject) (IH:∀(i:Nat) (hi:i<ks.length),ToObjectL ks[i]) (S:Nat→Prop) (w:World) (A:Option Addr) (c:Nat) (hR:Row w S 5 A c (ks.map TObject.D)) (hwt:ks.length+Dat.wtR (ks.map TObject.D)≤1048576) :
    Calls Tryz.prog 28 #[.slice A ks.length c] w (MadeRL w 5 (ks.map TObject.D)):=by
  have IH':=hide IH
  have HR:=hide hR
  have hlen:=hR.1
  have hcm:=hR.2.1
  simp only[List.length_map]at hlen
  unfold maxLen at hcm
  clear IH hR
  obtain⟨cur,hcur,hmk⟩:=make_rows (P:=Tryz.prog) (t:=32) (e:=98) (k:=5) ks.length (by omega) Tryz.underlying32 (by kernel_rfl)
  have HC:=hide hcur
  clear hcur
  have HW:=hide hwt
  clear hwt
  go_enter Tryz.func28,Tryz.ntmps28
  go_wp2_with (fail)
  have HF:=hide (FillO.start w 98 5 ks.length HC.out)
  clear hmk
  go_loopw [4] (fun iv wr=>∃k:Nat,k≤ks.length∧iv=.int .i64 k∧FillO wr w.heap.size 98 5 ks.length ((ks.map TObject.D).take k)∧Bel w wr) (fun iv _=>ks.length - (intOf iv).toNat)
  case atStart=>exact⟨0,Nat.zero_le _,rfl,HF.out,bl⟩
  case round =>
    obtain⟨k,hk,rfl,hF,hbw⟩:=hrel
    have HF1:=hide hF
    have hgl:=hF.lt
    clear hF HF
    rcases Nat.lt_or_ge k ks.length with hlt | hge
    · have hd:decide ((k:Int)<(ks.length:Int))=true:=by simp;omega
      have hi0:0≤(k:Int):=by omega
      have hi1:(k:Int)<(ks.length:Int):=by omega
      (obtain⟨b1,o1,x1_0,x1_1,x1_2,x1_3,x1_4,A1_3,C1_3,A1_4,C1_4,hA1,hS1,hl1,hx1,hv1,g1_0,g1_1,g1_2,g1_3,g1_4,c1_0,c1_1,c1_2,c1_3,c1_4⟩:=TObject.at HR.out k hlt;subst hA1;have HV1:=hide (Dat.HoldVals.bel hbw hv1);have hh1:=hbw.box b1 hl1;have hw1:=Nat.lt_of_lt_of_le hl1 (Bel.size hbw);replace c1_0:=(hh1 _).trans c1_0;replace c1_1:=(hh1 _).trans c1_1;replace c1_2:=(hh1 _).trans c1_2;replace c1_3:=(hh1 _).trans c1_3;replace c1_4:=(hh1 _).trans c1_4;have HX1:=hide hx1;have GR1_3:=hide g1_3;have GR1_4:=hide g1_4;clear hh1 hv1 hx1 hS1 g1_3 g1_4)
      have hw:=hide (Dat.wtR_take (ks.map TObject.D) k (by simpa using hlt))
      have hw':=hide (Dat.wtR_le (ks.map TObject.D) (k+1))
      have hwk:Dat.wtL ks[k].D≤1048576:=by have a:=hw.out;have b:=hw'.out;have c:=HW.out;rw[List.getElem_map]at a;omega
      go_wp2_with (fail)
      refine (IH'.out k hlt S _ _ (Dat.HoldVals.bel bl HV1.out) hwk).mono ?_
      rintro e w1 ⟨vs',L',rfl,hv',hnd',hlo',hb1⟩
      have HN':=hide hnd'
      have HL':=hide hlo'
      clear hnd' hlo'
      have HV':=hide hv'
      rw[HX1.out]at hv'
      obtain⟨A3,c3,A4,c4,rfl,-⟩:=TObject.vals (Dat.OwnVals.vals (S:=fun _=>True) (fun _ _=>trivial) hv')
      clear hv'
      obtain⟨y0,e0⟩:=(FillO.bel HF1.out (show Bel _ w1 from bl)).cell (i:=k*5) (by omega)
      obtain⟨y1,e1⟩:=(FillO.bel HF1.out (show Bel _ w1 from bl)).cell (i:=k*5+1) (by omega)
      obtain⟨y2,e2⟩:=(FillO.bel HF1.out (show Bel _ w1 from bl)).cell (i:=k*5+2) (by omega)
      obtain⟨y3,e3⟩:=(FillO.bel HF1.out (show Bel _ w1 from bl)).cell (i:=k*5+3) (by omega)
      obtain⟨y4,e4⟩:=(FillO.bel HF1.out (show Bel _ w1 from bl)).cell (i:=k*5+4) (by omega)
      have f0:=(FillO.bel HF1.out (show Bel _ w1 from bl)).free (k*5)
      have f1:=(FillO.bel HF1.out (show Bel _ w1 from bl)).free (k*5+1)
      have f2:=(FillO.bel HF1.out (show Bel _ w1 from bl)).free (k*5+2)
      have f3:=(FillO.bel HF1.out (show Bel _ w1 from bl)).free (k*5+3)
      have f4:=(FillO.bel HF1.out (show Bel _ w1 from bl)).free (k*5+4)
      go_wp2_with (fail)
      go_roundw
      case rel =>
       exact⟨k+1,by omega,by go_num,FillO.snoc5 HF1.out hlt rfl bl (Dat.OwnVals.bel bl HV'.out) HN'.out (fun b hb=>HL'.out b hb),bl⟩
      case measure=>simp[intOf];omega
    · have hd:decide ((k:Int)<(ks.length:Int))=false:=by simp;omega
      go_wp2_with (fail)
      go_returns
      obtain⟨L,q1,q2,q3⟩:=FillO.done HF1.out hge rfl (by unfold maxLen;omega)
      exact⟨some ⟨w.heap.size,0,none⟩,ks.length,L,by rw[List.length_map];rfl,q1,q2,q3,hbw⟩
set_option maxHeartbeats 2000000 in
theorem toObjectL_any:∀t:TObject,ToObjectL t:=by
 rintro⟨x0,x1,x2,x3,x4⟩
 intro S w vs hv hwt
 obtain⟨A3,c3,A4,c4,rfl,g0,g1,g2,hR3,hR4⟩:=TObject.vals hv
 have R3:=hide hR3
 have R4:=hide hR4
 rw[TObject.D_mk]at hwt
 simp only[Dat.wtL,Dat.wt,List.length_map]at hwt
 have hw3:x3.length+Dat.wtR (x3.map TValue.D)≤1048576:=by omega
 have hw4:x4.length+Dat.wtR (x4.map TValue.D)≤1048576:=by omega
 clear hv hwt hR3 hR4
 go_enter Tryz.func58,Tryz.ntmps58
 go_wp2_with (fail)
 refine (toValueSL_any x3 S _ _ _ (Row.bel bl R3.out) hw3).mono ?_
 rintro e w1 ⟨B3,d3,L3,rfl,hQ3,hN3,hL3,hb1⟩
 (have hz1:=hb1.sz;obtain⟨hk1_0,hf1_0,hl1_0,hn1_0⟩:=hb1.lay (w.heap.size);obtain⟨hk1_1,hf1_1,hl1_1,hn1_1⟩:=hb1.lay (w.heap.size+1);obtain⟨hk1_2,hf1_2,hl1_2,hn1_2⟩:=hb1.lay (w.heap.size+1+1))
 have N3:=hide hN3
 have V3:=hide (show ∀b,b∈L3→w.heap.size+2<b from fun b hb=>by have:=hL3 b hb;(try simp only[World.size_alloc,World.size_setCell,World.size_drew,World.heap_drewN]at this);omega)
 have U3:=hide hL3
 have T3:=hide (hQ3.lt)
 have Q3:=hide hQ3
 clear hQ3 hN3 hL3
 go_wp2_with (fail)
 refine (toValueSL_any x4 S _ _ _ (Row.bel bl R4.out) hw4).mono ?_
 rintro e w2 ⟨B4,d4,L4,rfl,hQ4,hN4,hL4,hb2⟩
 (have hz2:=hb2.sz;obtain⟨hk2_0,hf2_0,hl2_0,hn2_0⟩:=hb2.lay (w.heap.size);obtain⟨hk2_1,hf2_1,hl2_1,hn2_1⟩:=hb2.lay (w.heap.size+1);obtain⟨hk2_2,hf2_2,hl2_2,hn2_2⟩:=hb2.lay (w.heap.size+1+1))
 have N4:=hide hN4
 have V4:=hide (show ∀b,b∈L4→w.heap.size+2<b from fun b hb=>by have:=hL4 b hb;(try simp only[World.size_alloc,World.size_setCell,World.size_drew,World.heap_drewN]at this);omega)
 have U4:=hide (show ∀b,b∈L4→w1.heap.size≤b from fun b hb=>by have:=hL4 b hb;(try simp only[World.size_alloc,World.size_setCell,World.size_drew,World.heap_drewN]at this);omega)
 have T4:=hide (hQ4.lt)
 have Q4:=hide hQ4
 clear hQ4 hN4 hL4
 go_wp2_with (fail)
 exact bodyPost_ret (v:=.agg #[.int .i64 x0,.int .i64 x1,.int .i64 x2,.slice B3 x3.length d3,.slice B4 x4.length d4]) (by simp[results,Tryz.results58,go_sem,hk1_1,hf1_1,hk1_2,hf1_2,hk2_1,hf2_1,hk2_2,hf2_2]) rfl
  ⟨[.int .i64 x0,.int .i64 x1,.int .i64 x2,.slice B3 x3.length d3,.slice B4 x4.length d4],L3++L4,rfl,TObject.own_mk g0 g1 g2 (OwnRow.offS (S:=fun b=>w.heap.size+2<b) osl (fun b hb=>V3.out b hb) Q3.out) (OwnRow.offS (S:=fun b=>w.heap.size+2<b) osl (fun b hb=>V4.out b hb) Q4.out),nodup_app_lt (n:=w1.heap.size) N3.out (N4.out) (fun b hb=>T3.out b hb) (fun b hb=>by have:=U4.out b hb;omega),fun b hb=>(List.mem_append.1 hb).elim (fun hb=>by have:=V3.out b hb;omega) (fun hb=>by have:=V4.out b hb;omega),bl⟩
theorem toObjectSL_any (ks:List TObject) (S:Nat→Prop) (w:World) (A:Option Addr) (c:Nat) (hR:Row w S 5 A c (ks.map TObject.D)) (hwt:ks.length+Dat.wtR (ks.map TObject.D)≤1048576) :
  Calls Tryz.prog 28 #[.slice A ks.length c] w (MadeRL w 5 (ks.map TObject.D)):=toObjectS_ofL ks (fun _ _=>toObjectL_any _) S w A c hR hwt
theorem TObject.cnt_mk {x0:Int} {x1:Int} {x2:Int} {x3:List TValue} {x4:List TValue}:Dat.cntC (TObject.mk x0 x1 x2 x3 x4).D=3+Dat.cntR (x3.map TValue.D)+Dat.cntR (x4.map TValue.D):=by
 simp only[TObject.D_mk,Dat.cntC,Dat.cnt];(try omega)
theorem TObject.mark_own {w:World} {m:Int} {x0:Int} {x1:Int} {x2:Int} {x3:List TValue} {x4:List TValue} {A3:Option Addr} {c3:Nat} {L3:List Nat} {A4:Option Addr} {c4:Nat} {L4:List Nat} (h0:0≤m) (hm:m+(3+Dat.cntR (x3.map TValue.D)+Dat.cntR (x4.map TValue.D):Nat)≤4611686018427387904) (h3:OwnRow w L3 6 A3 c3 (Dat.markR (m+1+1+1) (x3.map TValue.D))) (h4:OwnRow w L4 6 A4 c4 (Dat.markR (m+1+1+1+(Dat.cntR (x3.map TValue.D):Nat)) (x4.map TValue.D))):Dat.OwnVals w (L3++L4) (Dat.markC m (TObject.mk x0 x1 x2 x3 x4).D) [.int .i64 (m),.int .i64 (m+1),.int .i64 (m+1+1),.slice A3 x3.length c3,.slice A4 x4.length c4]:=by
 have e:Dat.markC m (TObject.mk x0 x1 x2 x3 x4).D=[.int (m),.int (m+1),.int (m+1+1),.row 6 (Dat.markR (m+1+1+1) (x3.map TValue.D)),.row 6 (Dat.markR (m+1+1+1+(Dat.cntR (x3.map TValue.D):Nat)) (x4.map TValue.D))]:=by
  simp only[TObject.D_mk,Dat.markC,Dat.mark,Dat.cnt]
  first | done | rfl | (simp only[Nat.cast_one];done) | (simp;done) | (push_cast;simp)
 rw[e]
 exact⟨[],_,(List.nil_append _).symm,Dat.own_int.2 ⟨rfl,rfl,InI.of_le (by omega) (by omega)⟩,⟨[],_,(List.nil_append _).symm,Dat.own_int.2 ⟨rfl,rfl,InI.of_le (by omega) (by omega)⟩,⟨[],_,(List.nil_append _).symm,Dat.own_int.2 ⟨rfl,rfl,InI.of_le (by omega) (by omega)⟩,⟨L3,_,rfl,Dat.own_row.2 ⟨_,_,by simp only[Dat.markR_length,List.length_map],h3⟩,⟨L4,_,(List.append_nil _).symm,Dat.own_row.2 ⟨_,_,by simp only[Dat.markR_length,List.length_map],h4⟩,rfl⟩⟩⟩⟩⟩
theorem TObject.mcnt_le:∀t:TObject,Dat.cntC t.D≤16+16*Dat.wtL t.D:=by
 rintro⟨x0,x1,x2,x3,x4⟩
 have r3:=cntR_le_of TValue.D x3 (fun i hi=>TValue.mcnt_le x3[i])
 have r4:=cntR_le_of TValue.D x4 (fun i hi=>TValue.mcnt_le x4[i])
 rw[TObject.cnt_mk,TObject.D_mk]
 simp only[Dat.wtL,Dat.wt,List.length_map]
 omega
theorem TObject.mark_vals {w:World} {S:Nat→Prop} {m:Int} {x0:Int} {x1:Int} {x2:Int} {x3:List TValue} {x4:List TValue} {vs:List Value} (h:Dat.HoldVals w S (Dat.markC m (TObject.mk x0 x1 x2 x3 x4).D) vs):∃A3 c3 A4 c4,vs=[.int .i64 (m),.int .i64 (m+1),.int .i64 (m+1+1),.slice A3 x3.length c3,.slice A4 x4.length c4]∧Row w S 6 A3 c3 (Dat.markR (m+1+1+1) (x3.map TValue.D))∧Row w S 6 A4 c4 (Dat.markR (m+1+1+1+(Dat.cntR (x3.map TValue.D):Nat)) (x4.map TValue.D)):=by
 have e:Dat.markC m (TObject.mk x0 x1 x2 x3 x4).D=[.int (m),.int (m+1),.int (m+1+1),.row 6 (Dat.markR (m+1+1+1) (x3.map TValue.D)),.row 6 (Dat.markR (m+1+1+1+(Dat.cntR (x3.map TValue.D):Nat)) (x4.map TValue.D))]:=by
  simp only[TObject.D_mk,Dat.markC,Dat.mark,Dat.cnt]
  first | done | rfl | (simp only[Nat.cast_one];done) | (simp;done) | (push_cast;simp)
 rw[e]at h
 match vs,h with
 | [u0,u1,u2,u3,u4],h =>
 simp only[Dat.HoldVals]at h
 obtain⟨h0,h1,h2,h3,h4,-⟩:=h
 obtain⟨rfl,-⟩:=Dat.holds_int.1 h0
 obtain⟨rfl,-⟩:=Dat.holds_int.1 h1
 obtain⟨rfl,-⟩:=Dat.holds_int.1 h2
 obtain⟨A3,c3,rfl,g3⟩:=Dat.holds_row.1 h3
 obtain⟨A4,c4,rfl,g4⟩:=Dat.holds_row.1 h4
 exact⟨A3,c3,A4,c4,by simp only[Dat.markR_length,List.length_map],g3,g4⟩
set_option maxHeartbeats 2000000 in
theorem markObjectS_any (ks:List TObject) (L:List Nat) (w:World) (A:Option Addr) (c:Nat) (k:Int) (hR:OwnRow w L 5 A c (ks.map TObject.D)) (hnd:L.Nodup) (h0:0≤k) (hb:k+(Dat.cntR (ks.map TObject.D):Nat)≤4611686018427387904) :
    Calls Tryz.prog 38 #[.slice A ks.length c,.int .i64 k] w (Marked w L 5 A c k (ks.map TObject.D)):=by
  have HR:=hide hR
  have HN:=hide hnd
  have hlen:=hR.1
  have hcm:=hR.2.1
  simp only[List.length_map]at hlen
  unfold maxLen at hcm
  clear hR hnd
  go_enter Tryz.func38,Tryz.ntmps38
  go_wp2_with (fail)
  go_loopw [1,5] (fun kv iv wr=>∃i:Nat,i≤ks.length∧iv=.int .i64 i∧kv=.int .i64 (k+(Dat.cntR ((ks.map TObject.D).take i):Nat))∧Hid (OwnRow wr L 5 A c (Dat.markTo k i (ks.map TObject.D)))∧OffS (fun x=>x∉L) w wr) (fun _ iv _=>ks.length - (intOf iv).toNat)
  case atStart=>exact⟨0,Nat.zero_le _,rfl,by simp[Dat.cntR],(by rw[Dat.markTo_zero];exact HR.out),osl⟩
  case round =>
    obtain⟨i,hi,rfl,rfl,hO,hoff⟩:=hrel
    rcases Nat.lt_or_ge i ks.length with hlt | hge
    · have hd:decide ((i:Int)<(ks.length:Int))=true:=by simp;omega
      have hi0:0≤(i:Int):=by omega
      have hi1:(i:Int)<(ks.length:Int):=by omega
      obtain⟨x0,x1,x2,x3,x4,hx⟩:∃x0 x1 x2 x3 x4,ks[i]=.mk x0 x1 x2 x3 x4:=by cases ks[i];exact⟨_,_,_,_,_,rfl⟩
      have HX:=hide hx
      have ht:=Dat.cntR_take (ks.map TObject.D) i (by simpa using hlt)
      have hle:=Dat.cntR_le (ks.map TObject.D) (i+1)
      simp only[List.getElem_map,hx,TObject.cnt_mk]at ht
      obtain⟨q3,hq3⟩:∃q,Dat.cntR (x3.map TValue.D)=q:=⟨_,rfl⟩
      obtain⟨q4,hq4⟩:∃q,Dat.cntR (x4.map TValue.D)=q:=⟨_,rfl⟩
      simp only[hq3,hq4]at ht
      obtain⟨m,hm⟩:∃m:Int,k+(Dat.cntR ((ks.map TObject.D).take i):Nat)=m:=⟨_,rfl⟩
      have hm0:0≤m:=by omega
      have hm1:m+3+(q3:Nat)+(q4:Nat)≤4611686018427387904:=by omega
      have HE:=hide (show k+(Dat.cntR ((ks.map TObject.D).take (i+1)):Nat)=m+3+(q3:Nat)+(q4:Nat) by omega)
      rw[hm]
      have HM:=hide hm
      have HQ3:=hide hq3
      have HQ4:=hide hq4
      obtain⟨b,o,L1,Le,L2,vs,rfl,hb1,hf1,hLe,hv,hvl,hc,hput⟩:=OwnRow.at hO.out i (by rw[Dat.markTo_length];simpa using hlt)
      rw[Dat.markTo_get k i _ (by simpa using hlt),List.getElem_map,hx]at hv
      obtain⟨A3,c3,L_3,A4,c4,L_4,hEL,rfl,g0,g1,g2,g3,g4⟩:=TObject.vals_own hv
      have hEL2:=hEL.symm
      clear hEL
      subst hEL2
      have z0:wr.cell? ⟨b,o+i*5,none⟩=some (.int .i64 x0):=by simpa using hc 0 (by decide)
      have z1:wr.cell? ⟨b,o+i*5+1,none⟩=some (.int .i64 x1):=by simpa using hc 1 (by decide)
      have z2:wr.cell? ⟨b,o+i*5+2,none⟩=some (.int .i64 x2):=by simpa using hc 2 (by decide)
      have z3:wr.cell? ⟨b,o+i*5+3,none⟩=some (.slice A3 x3.length c3):=by simpa using hc 3 (by decide)
      have z4:wr.cell? ⟨b,o+i*5+4,none⟩=some (.slice A4 x4.length c4):=by simpa using hc 4 (by decide)
      obtain⟨hbL,hLeL,hbLe,hnLe,hrest⟩:=own_parts hLe HN.out
      have hNN:=hnLe
      have HNL3:=hide (List.nodup_append.1 hnLe).1
      have hdd3:=(List.nodup_append.1 hnLe).2.2
      have hnn3:=(List.nodup_append.1 hnLe).2.1
      have HNL4:=hide hnn3
      have HI3:=hide (show ∀x,x∈L_3→x∈(L_3++L_4)from fun x h=>by simp[h])
      have hb_3:b∉L_3:=fun h=>hbLe (HI3.out b h)
      have HI4:=hide (show ∀x,x∈L_4→x∈(L_3++L_4)from fun x h=>by simp[h])
      have hb_4:b∉L_4:=fun h=>hbLe (HI4.out b h)
      have HD3_4:=hide (show ∀x,x∈L_3→x∉L_4 from fun x h h2=>hdd3 x h x (by simp[h2]) rfl)
      have HD4_3:=hide (show ∀x,x∈L_4→x∉L_3 from fun x h h2=>HD3_4.out x h2 h)
      have G3:=hide g3
      have G4:=hide g4
      have HP:=hide hput
      have HLe:=hide hLe
      have HL2:=hide hLeL
      have HRS:=hide hrest
      clear hv hc hx ht hle hm hq3 hq4 hdd3 hnn3 hNN hnLe g3 g4 hput hLe hLeL hrest
      go_wp2_with (fail)
      refine (markValueS_any x3 L_3 _ A3 c3 _ (OwnRow.offS (S:=fun x=>x∈L_3) (w:=wr) osl (fun x hx=>hx) G3.out) HNL3.out (by omega) (by rw[HQ3.out];omega)).mono ?_
      rintro e w1 ⟨rfl,hO3,ho1⟩
      rw[HQ3.out]
      have HO3:=hide hO3
      clear hO3
      have hz1:=ho1.size
      (try simp only[World.size_alloc,World.size_setCell,World.size_drew,World.heap_drewN]at hz1)
      have hss1:=ho1.same b hb_3 (by first | (simp;done) | (simp;omega) | omega)
      have hk1:=hss1.1
      have hf_1:=hss1.2
      have hl1:b<w1.heap.size:=by omega
      have hoL1:=OffS.narrow (S':=fun x=>x∉L) ho1 (fun x hx h=>hx (HL2.out x (HI3.out x h)))
      have hoE1:=OffS.narrow (S':=fun x=>x∉(L_3++L_4)∧x≠b) ho1 (fun x hx h=>hx.1 (HI3.out x h))
      have ho1_4:=OffS.narrow (S':=fun x=>x∈L_4) ho1 (fun x hx=>HD4_3.out x hx)
      clear hss1 ho1
      go_wp2_with (fail)
      refine (markValueS_any x4 L_4 _ A4 c4 _ (OwnRow.offS (S:=fun x=>x∈L_4) (w:=wr) osl (fun x hx=>hx) G4.out) HNL4.out (by omega) (by rw[HQ4.out];omega)).mono ?_
      rintro e w2 ⟨rfl,hO4,ho2⟩
      rw[HQ4.out]
      have HO4:=hide hO4
      clear hO4
      have hz2:=ho2.size
      (try simp only[World.size_alloc,World.size_setCell,World.size_drew,World.heap_drewN]at hz2)
      have hss2:=ho2.same b hb_4 (by first | (simp;done) | (simp;omega) | omega)
      have hk2:=hss2.1
      have hf_2:=hss2.2
      have hl2:b<w2.heap.size:=by omega
      have hoL2:=OffS.narrow (S':=fun x=>x∉L) ho2 (fun x hx h=>hx (HL2.out x (HI4.out x h)))
      have hoE2:=OffS.narrow (S':=fun x=>x∉(L_3++L_4)∧x≠b) ho2 (fun x hx h=>hx.1 (HI4.out x h))
      have ho2_3:=OffS.narrow (S':=fun x=>x∈L_3) ho2 (fun x hx=>HD3_4.out x hx)
      clear hss2 ho2
      go_wp2_with (fail)
      go_roundw
      case rel =>
       refine⟨i+1,by omega,by go_num,by rw[HE.out];first | done | go_num,?_,osl⟩
       rw[←Dat.markTo_succ k i _ (by simpa using hlt)]
       refine hide ?_
       rw[List.getElem_map,HX.out,HM.out]
       refine HP.out _ _ [.int .i64 (m),.int .i64 (m+1),.int .i64 (m+1+1),.slice A3 x3.length c3,.slice A4 x4.length c4] (by (try simp only[←HQ3.out,←HQ4.out]);exact TObject.mark_own (m:=m) (x0:=x0) (x1:=x1) (x2:=x2) (x3:=x3) (x4:=x4) (A3:=A3) (c3:=c3) (L3:=L_3) (A4:=A4) (c4:=c4) (L4:=L_4) hm0 (by (try simp only[HQ3.out,HQ4.out]);omega) (by (try simp only[HQ3.out,HQ4.out]);exact OwnRow.offS (S:=fun x=>x∈L_3) (w:=w1) osl (fun x hx=>hx) HO3.out) (by (try simp only[HQ3.out,HQ4.out]);exact OwnRow.offS (S:=fun x=>x∈L_4) (w:=w2) osl (fun x hx=>hx) HO4.out)) rfl (by (try simp only[World.size_alloc,World.size_setCell,World.size_drew,World.heap_drewN]);omega) (fun z hz=>?_) (fun z=>by simp[go_sem,hk1,hf_1,hk2,hf_2,hf1]) (fun z hz=>?_) (cells_of5 (by simp[go_sem,hk1,hf_1,hk2,hf_2,z0,z1,z2,z3,z4]) (by simp[go_sem,hk1,hf_1,hk2,hf_2,z0,z1,z2,z3,z4]) (by simp[go_sem,hk1,hf_1,hk2,hf_2,z0,z1,z2,z3,z4]) (by simp[go_sem,hk1,hf_1,hk2,hf_2,z0,z1,z2,z3,z4]) (by simp[go_sem,hk1,hf_1,hk2,hf_2,z0,z1,z2,z3,z4]))
       · exact OffS.same (S:=fun x=>x∉(L_3++L_4)∧x≠b) (w:=wr) osl z ⟨(HRS.out z hz).1,(HRS.out z hz).2.1⟩ (hO.out.lt z (HRS.out z hz).2.2)
       · have n0:z≠o+i*5:=by omega
         have n1:z≠o+i*5+1:=by omega
         have n2:z≠o+i*5+2:=by omega
         have n3:z≠o+i*5+3:=by omega
         have n4:z≠o+i*5+4:=by omega
         simp[go_sem,hk1,hf_1,hk2,hf_2,n0,n1,n2,n3,n4]
      case measure=>simp[intOf];omega
    · have hd:decide ((i:Int)<(ks.length:Int))=false:=by simp;omega
      obtain rfl:i=ks.length:=by omega
      have HO2:=hide (show OwnRow wr L 5 A c (Dat.markR k (ks.map TObject.D))from by have:=hO.out;rw[Dat.markTo_all _ _ _ (by simp)]at this;exact this)
      go_wp2_with (fail)
      go_returns
      rw[List.take_of_length_le (by simp)]
      exact⟨rfl,HO2.out,hoff⟩
end Go.Proofs.YtehcjlkgfgpjnaaGreatDoor
namespace Go.Proofs.YtehcjlkgfgpjnaaGreatDoor
set_option linter.unusedVariables false
set_option linter.unusedSimpArgs false
set_option maxRecDepth 100000
open Go.RowKit
theorem TActive.vals_own {w:World} {L:List Nat} {x0:Int} {x1:Int} {vs:List Value} (h:Dat.OwnVals w L (TActive.mk x0 x1).D vs):L=[]∧vs=[.int .i64 x0,.int .i64 x1]∧InI x0∧InI x1:=by
 rw[TActive.D_mk]at h
 have hl:=h.length
 match vs,hl,h with
 | [u0,u1],_,h =>
 simp only[Dat.OwnVals]at h
 obtain⟨M0,N0,e0,h0,M1,N1,e1,h1,en⟩:=h
 subst en
 subst e1
 subst e0
 obtain⟨rfl,rfl,g0⟩:=Dat.own_int.1 h0
 obtain⟨rfl,rfl,g1⟩:=Dat.own_int.1 h1
 exact⟨by simp only[List.nil_append,List.append_nil],by simp only[List.length_map],g0,g1⟩
theorem TActive.own_mk {w:World} {x0:Int} {x1:Int} (h0:InI x0) (h1:InI x1):Dat.OwnVals w ([]) (TActive.mk x0 x1).D [.int .i64 x0,.int .i64 x1]:=by
 rw[TActive.D_mk]
 exact⟨[],_,(List.nil_append _).symm,Dat.own_int.2 ⟨rfl,rfl,h0⟩,⟨[],_,(List.nil_append _).symm,Dat.own_int.2 ⟨rfl,rfl,h1⟩,rfl⟩⟩
def ToActiveL (t:TActive):Prop:=∀(S:Nat→Prop) (w:World) (vs:List Value),Dat.HoldVals w S t.D vs→Dat.wtL t.D≤1048576 →
 Calls Tryz.prog 60 #[.agg vs.toArray] w (MadeVL w t.D)
set_option maxHeartbeats 800000 in
theorem toActiveS_ofL (ks:List TActive) (IH:∀(i:Nat) (hi:i<ks.length),ToActiveL ks[i]) (S:Nat→Prop) (w:World) (A:Option Addr) (c:Nat) (hR:Row w S 2 A c (ks.map TActive.D)) (hwt:ks.length+Dat.wtR (ks.map TActive.D)≤1048576) :
    Calls Tryz.prog 30 #[.slice A ks.length c] w (MadeRL w 2 (ks.map TActive.D)):=by
  have IH':=hide IH
  have HR:=hide hR
  have hlen:=hR.1
  have hcm:=hR.2.1
  simp only[List.length_map]at hlen
  unfold maxLen at hcm
  clear IH hR
  obtain⟨cur,hcur,hmk⟩:=make_rows (P:=Tryz.prog) (t:=34) (e:=96) (k:=2) ks.length (by omega) Tryz.underlying34 (by kernel_rfl)
  have HC:=hide hcur
  clear hcur
  have HW:=hide hwt
  clear hwt
  go_enter Tryz.func30,Tryz.ntmps30
  go_wp2_with (fail)
  have HF:=hide (FillO.start w 96 2 ks.length HC.out)
  clear hmk
  go_loopw [4] (fun iv wr=>∃k:Nat,k≤ks.length∧iv=.int .i64 k∧FillO wr w.heap.size 96 2 ks.length ((ks.map TActive.D).take k)∧Bel w wr) (fun iv _=>ks.length - (intOf iv).toNat)
  case atStart=>exact⟨0,Nat.zero_le _,rfl,HF.out,bl⟩
  case round =>
    obtain⟨k,hk,rfl,hF,hbw⟩:=hrel
    have HF1:=hide hF
    have hgl:=hF.lt
    clear hF HF
    rcases Nat.lt_or_ge k ks.length with hlt | hge
    · have hd:decide ((k:Int)<(ks.length:Int))=true:=by simp;omega
      have hi0:0≤(k:Int):=by omega
      have hi1:(k:Int)<(ks.length:Int):=by omega
      (obtain⟨b1,o1,x1_0,x1_1,hA1,hS1,hl1,hx1,hv1,g1_0,g1_1,c1_0,c1_1⟩:=TActive.at HR.out k hlt;subst hA1;have HV1:=hide (Dat.HoldVals.bel hbw hv1);have hh1:=hbw.box b1 hl1;have hw1:=Nat.lt_of_lt_of_le hl1 (Bel.size hbw);replace c1_0:=(hh1 _).trans c1_0;replace c1_1:=(hh1 _).trans c1_1;have HX1:=hide hx1;clear hh1 hv1 hx1 hS1)
      have hw:=hide (Dat.wtR_take (ks.map TActive.D) k (by simpa using hlt))
      have hw':=hide (Dat.wtR_le (ks.map TActive.D) (k+1))
      have hwk:Dat.wtL ks[k].D≤1048576:=by have a:=hw.out;have b:=hw'.out;have c:=HW.out;rw[List.getElem_map]at a;omega
      go_wp2_with (fail)
      refine (IH'.out k hlt S _ _ (Dat.HoldVals.bel bl HV1.out) hwk).mono ?_
      rintro e w1 ⟨vs',L',rfl,hv',hnd',hlo',hb1⟩
      have HN':=hide hnd'
      have HL':=hide hlo'
      clear hnd' hlo'
      have HV':=hide hv'
      rw[HX1.out]at hv'
      obtain⟨rfl,-⟩:=TActive.vals (Dat.OwnVals.vals (S:=fun _=>True) (fun _ _=>trivial) hv')
      clear hv'
      obtain⟨y0,e0⟩:=(FillO.bel HF1.out (show Bel _ w1 from bl)).cell (i:=k*2) (by omega)
      obtain⟨y1,e1⟩:=(FillO.bel HF1.out (show Bel _ w1 from bl)).cell (i:=k*2+1) (by omega)
      have f0:=(FillO.bel HF1.out (show Bel _ w1 from bl)).free (k*2)
      have f1:=(FillO.bel HF1.out (show Bel _ w1 from bl)).free (k*2+1)
      go_wp2_with (fail)
      go_roundw
      case rel =>
       exact⟨k+1,by omega,by go_num,FillO.snoc2 HF1.out hlt rfl bl (Dat.OwnVals.bel bl HV'.out) HN'.out (fun b hb=>HL'.out b hb),bl⟩
      case measure=>simp[intOf];omega
    · have hd:decide ((k:Int)<(ks.length:Int))=false:=by simp;omega
      go_wp2_with (fail)
      go_returns
      obtain⟨L,q1,q2,q3⟩:=FillO.done HF1.out hge rfl (by unfold maxLen;omega)
      exact⟨some ⟨w.heap.size,0,none⟩,ks.length,L,by rw[List.length_map];rfl,q1,q2,q3,hbw⟩
set_option maxHeartbeats 2000000 in
theorem toActiveL_any:∀t:TActive,ToActiveL t:=by
 rintro⟨x0,x1⟩
 intro S w vs hv hwt
 obtain⟨rfl,g0,g1⟩:=TActive.vals hv
 rw[TActive.D_mk]at hwt
 simp only[Dat.wtL,Dat.wt,List.length_map]at hwt
 clear hv hwt 
 go_enter Tryz.func60,Tryz.ntmps60
 go_wp2_with (fail)
 exact bodyPost_ret (v:=.agg #[.int .i64 x0,.int .i64 x1]) (by simp[results,Tryz.results60,go_sem]) rfl
  ⟨[.int .i64 x0,.int .i64 x1],[],rfl,TActive.own_mk g0 g1,List.nodup_nil,fun b hb=>by simp at hb,bl⟩
theorem toActiveSL_any (ks:List TActive) (S:Nat→Prop) (w:World) (A:Option Addr) (c:Nat) (hR:Row w S 2 A c (ks.map TActive.D)) (hwt:ks.length+Dat.wtR (ks.map TActive.D)≤1048576) :
  Calls Tryz.prog 30 #[.slice A ks.length c] w (MadeRL w 2 (ks.map TActive.D)):=toActiveS_ofL ks (fun _ _=>toActiveL_any _) S w A c hR hwt
theorem TActive.cnt_mk {x0:Int} {x1:Int}:Dat.cntC (TActive.mk x0 x1).D=2:=by
 simp only[TActive.D_mk,Dat.cntC,Dat.cnt];(try omega)
theorem TActive.mark_own {w:World} {m:Int} {x0:Int} {x1:Int} (h0:0≤m) (hm:m+(2:Nat)≤4611686018427387904):Dat.OwnVals w ([]) (Dat.markC m (TActive.mk x0 x1).D) [.int .i64 (m),.int .i64 (m+1)]:=by
 have e:Dat.markC m (TActive.mk x0 x1).D=[.int (m),.int (m+1)]:=by
  simp only[TActive.D_mk,Dat.markC,Dat.mark,Dat.cnt]
  first | done | rfl | (simp only[Nat.cast_one];done) | (simp;done) | (push_cast;simp)
 rw[e]
 exact⟨[],_,(List.nil_append _).symm,Dat.own_int.2 ⟨rfl,rfl,InI.of_le (by omega) (by omega)⟩,⟨[],_,(List.nil_append _).symm,Dat.own_int.2 ⟨rfl,rfl,InI.of_le (by omega) (by omega)⟩,rfl⟩⟩
theorem TActive.mcnt_le:∀t:TActive,Dat.cntC t.D≤16+16*Dat.wtL t.D:=by
 rintro⟨x0,x1⟩
 rw[TActive.cnt_mk,TActive.D_mk]
 simp only[Dat.wtL,Dat.wt,List.length_map]
 omega
theorem TActive.mark_vals {w:World} {S:Nat→Prop} {m:Int} {x0:Int} {x1:Int} {vs:List Value} (h:Dat.HoldVals w S (Dat.markC m (TActive.mk x0 x1).D) vs):vs=[.int .i64 (m),.int .i64 (m+1)]:=by
 have e:Dat.markC m (TActive.mk x0 x1).D=[.int (m),.int (m+1)]:=by
  simp only[TActive.D_mk,Dat.markC,Dat.mark,Dat.cnt]
  first | done | rfl | (simp only[Nat.cast_one];done) | (simp;done) | (push_cast;simp)
 rw[e]at h
 match vs,h with
 | [u0,u1],h =>
 simp only[Dat.HoldVals]at h
 obtain⟨h0,h1,-⟩:=h
 obtain⟨rfl,-⟩:=Dat.holds_int.1 h0
 obtain⟨rfl,-⟩:=Dat.holds_int.1 h1
 exact rfl
set_option maxHeartbeats 2000000 in
theorem markActiveS_any (ks:List TActive) (L:List Nat) (w:World) (A:Option Addr) (c:Nat) (k:Int) (hR:OwnRow w L 2 A c (ks.map TActive.D)) (hnd:L.Nodup) (h0:0≤k) (hb:k+(Dat.cntR (ks.map TActive.D):Nat)≤4611686018427387904) :
    Calls Tryz.prog 40 #[.slice A ks.length c,.int .i64 k] w (Marked w L 2 A c k (ks.map TActive.D)):=by
  have HR:=hide hR
  have HN:=hide hnd
  have hlen:=hR.1
  have hcm:=hR.2.1
  simp only[List.length_map]at hlen
  unfold maxLen at hcm
  clear hR hnd
  go_enter Tryz.func40,Tryz.ntmps40
  go_wp2_with (fail)
  go_loopw [1,5] (fun kv iv wr=>∃i:Nat,i≤ks.length∧iv=.int .i64 i∧kv=.int .i64 (k+(Dat.cntR ((ks.map TActive.D).take i):Nat))∧Hid (OwnRow wr L 2 A c (Dat.markTo k i (ks.map TActive.D)))∧OffS (fun x=>x∉L) w wr) (fun _ iv _=>ks.length - (intOf iv).toNat)
  case atStart=>exact⟨0,Nat.zero_le _,rfl,by simp[Dat.cntR],(by rw[Dat.markTo_zero];exact HR.out),osl⟩
  case round =>
    obtain⟨i,hi,rfl,rfl,hO,hoff⟩:=hrel
    rcases Nat.lt_or_ge i ks.length with hlt | hge
    · have hd:decide ((i:Int)<(ks.length:Int))=true:=by simp;omega
      have hi0:0≤(i:Int):=by omega
      have hi1:(i:Int)<(ks.length:Int):=by omega
      obtain⟨x0,x1,hx⟩:∃x0 x1,ks[i]=.mk x0 x1:=by cases ks[i];exact⟨_,_,rfl⟩
      have HX:=hide hx
      have ht:=Dat.cntR_take (ks.map TActive.D) i (by simpa using hlt)
      have hle:=Dat.cntR_le (ks.map TActive.D) (i+1)
      simp only[List.getElem_map,hx,TActive.cnt_mk]at ht
      obtain⟨m,hm⟩:∃m:Int,k+(Dat.cntR ((ks.map TActive.D).take i):Nat)=m:=⟨_,rfl⟩
      have hm0:0≤m:=by omega
      have hm1:m+2≤4611686018427387904:=by omega
      have HE:=hide (show k+(Dat.cntR ((ks.map TActive.D).take (i+1)):Nat)=m+2 by omega)
      rw[hm]
      have HM:=hide hm
      obtain⟨b,o,L1,Le,L2,vs,rfl,hb1,hf1,hLe,hv,hvl,hc,hput⟩:=OwnRow.at hO.out i (by rw[Dat.markTo_length];simpa using hlt)
      rw[Dat.markTo_get k i _ (by simpa using hlt),List.getElem_map,hx]at hv
      obtain⟨hEL,rfl,g0,g1⟩:=TActive.vals_own hv
      have hEL2:=hEL.symm
      clear hEL
      subst hEL2
      have z0:wr.cell? ⟨b,o+i*2,none⟩=some (.int .i64 x0):=by simpa using hc 0 (by decide)
      have z1:wr.cell? ⟨b,o+i*2+1,none⟩=some (.int .i64 x1):=by simpa using hc 1 (by decide)
      obtain⟨hbL,hLeL,hbLe,hnLe,hrest⟩:=own_parts hLe HN.out
      have HP:=hide hput
      have HLe:=hide hLe
      have HL2:=hide hLeL
      have HRS:=hide hrest
      clear hv hc hx ht hle hm hnLe hput hLe hLeL hrest
      go_wp2_with (fail)
      go_roundw
      case rel =>
       refine⟨i+1,by omega,by go_num,by rw[HE.out];first | done | go_num,?_,osl⟩
       rw[←Dat.markTo_succ k i _ (by simpa using hlt)]
       refine hide ?_
       rw[List.getElem_map,HX.out,HM.out]
       refine HP.out _ _ [.int .i64 (m),.int .i64 (m+1)] (TActive.mark_own (m:=m) (x0:=x0) (x1:=x1) hm0 (by omega)) rfl (by (try simp only[World.size_alloc,World.size_setCell,World.size_drew,World.heap_drewN]);omega) (fun z hz=>?_) (fun z=>by simp[go_sem,hf1]) (fun z hz=>?_) (cells_of2 (by simp[go_sem,z0,z1]) (by simp[go_sem,z0,z1]))
       · exact OffS.same (S:=fun x=>x∉([])∧x≠b) (w:=wr) osl z ⟨(HRS.out z hz).1,(HRS.out z hz).2.1⟩ (hO.out.lt z (HRS.out z hz).2.2)
       · have n0:z≠o+i*2:=by omega
         have n1:z≠o+i*2+1:=by omega
         simp[go_sem,n0,n1]
      case measure=>simp[intOf];omega
    · have hd:decide ((i:Int)<(ks.length:Int))=false:=by simp;omega
      obtain rfl:i=ks.length:=by omega
      have HO2:=hide (show OwnRow wr L 2 A c (Dat.markR k (ks.map TActive.D))from by have:=hO.out;rw[Dat.markTo_all _ _ _ (by simp)]at this;exact this)
      go_wp2_with (fail)
      go_returns
      rw[List.take_of_length_le (by simp)]
      exact⟨rfl,HO2.out,hoff⟩
end Go.Proofs.YtehcjlkgfgpjnaaGreatDoor
