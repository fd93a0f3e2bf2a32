/- The program copies a store. -/
import Derived.Test.YtppmgodahloogaaGreatDoorPr
import Derived.Test.YtppmgodahloogaaGreatDoorPK3
import Derived.Test.YtppmgodahloogaaGreatDoorPNb
namespace Go.Proofs.YtppmgodahloogaaGreatDoor
set_option linter.unusedVariables false
set_option linter.unusedSimpArgs false
set_option maxRecDepth 100000
open Go.RowKit
set_option maxHeartbeats 8000000 in
theorem implClone_any:CloneC 31:=by
 intro x0 x1 x2 x3 x4 x5 x6 x7 x8 x9 x10 x11 x12 S w vs hv hwt
 obtain⟨A0,c0,A1,c1,A2,c2,A3,c3,A6,c6,A7,c7,A8,c8,rfl,g0,g1,g2,g3,g4,g5,g6,g7,g8,-,g10,g11,g12⟩:=TStore.vals hv
 have HR0:=hide g0
 have hl0:=g0.1
 have hm0:=g0.2.1
 simp only[List.length_map]at hl0
 unfold maxLen at hm0
 have HR1:=hide g1
 have hl1:=g1.1
 have hm1:=g1.2.1
 simp only[List.length_map]at hl1
 unfold maxLen at hm1
 have HR2:=hide g2
 have hl2:=g2.1
 have hm2:=g2.2.1
 simp only[List.length_map]at hl2
 unfold maxLen at hm2
 have HR3:=hide g3
 have hl3:=g3.1
 have hm3:=g3.2.1
 simp only[List.length_map]at hl3
 unfold maxLen at hm3
 have HR6:=hide g6
 have hl6:=g6.1
 have hm6:=g6.2.1
 simp only[List.length_map]at hl6
 unfold maxLen at hm6
 have HR7:=hide g7
 have hl7:=g7.1
 have hm7:=g7.2.1
 simp only[List.length_map]at hl7
 unfold maxLen at hm7
 have HR8:=hide g8
 have hl8:=g8.1
 have hm8:=g8.2.1
 simp only[List.length_map]at hl8
 unfold maxLen at hm8
 rw[TStore.D_mk]at hwt
 simp only[Dat.wtL,Dat.wt,List.length_map]at hwt
 have hx0:x0.length≤1048576:=by omega
 have hx1:x1.length≤1048576:=by omega
 have hx2:x2.length≤1048576:=by omega
 have hx3:x3.length≤1048576:=by omega
 have hx6:x6.length≤1048576:=by omega
 have hx7:x7.length≤1048576:=by omega
 have hx8:x8.length≤1048576:=by omega
 have HFR:=hide (show ∀(k:Nat) (h:k<x1.length),x1[k].fl.length≤1048576 from fun k h=>by have:=wt_recs x1 k h;omega)
 have HFO:=hide (show ∀(k:Nat) (h:k<x2.length),x2[k].its.length+x2[k].kys.length≤1048576 from fun k h=>by have:=wt_objs x2 k h;omega)
 clear hwt hv g0 g1 g2 g3 g6 g7 g8
 obtain⟨is,his,zs0,zs1,zs2⟩:=info_parts infoStr
 obtain⟨iv,hiv,zv0,zv1,zv2⟩:=info_parts infoVal
 obtain⟨ia,hia,za0,za1,za2⟩:=info_parts infoAct
 obtain⟨io,hio,zo0,zo1,zo2⟩:=info_parts infoObj
 go_enter Tryz.func31,Tryz.ntmps31
 go_upto_region 2 with (fail)
 refine wp_named2 fun w2 hw2=>?_
 replace hw2:((w.alloc (.cells #[.slice A0 x0.length c0,.slice A1 x1.length c1,.slice A2 x2.length c2,.slice A3 x3.length c3,.string x4,.int .i64 x5,.slice A6 x6.length c6,.slice A7 x7.length c7,.slice A8 x8.length c8,.bool x9,.int .i64 x10,.int .i64 x11,.int .i64 x12] 40)).alloc (.cells #[.slice none 0 0,.slice none 0 0,.slice none 0 0,.slice none 0 0,.string ByteArray.empty,.int .i64 0,.slice none 0 0,.slice none 0 0,.slice none 0 0,.bool false,.int .i64 0,.int .i64 0,.int .i64 0] 40)).alloc (.cells #[.slice A0 x0.length c0,.slice A1 x1.length c1,.slice A2 x2.length c2,.slice A3 x3.length c3,.string x4,.int .i64 x5,.slice A6 x6.length c6,.slice A7 x7.length c7,.slice A8 x8.length c8,.bool x9,.int .i64 x10,.int .i64 x11,.int .i64 x12] 40)=w2:=hw2
 have hb2:Bel w w2:=by rw[←hw2];exact bl
 have hz2:w2.heap.size=w.heap.size+3:=by rw[←hw2];simp
 have SQ:SB w2 w.heap.size (.slice A0 x0.length c0) (.slice A1 x1.length c1) (.slice A2 x2.length c2) (.slice A3 x3.length c3) (.string x4) (.int .i64 x5) (.slice A6 x6.length c6) (.slice A7 x7.length c7) (.slice A8 x8.length c8) (.bool x9) (.int .i64 x10) (.int .i64 x11) (.int .i64 x12):=by rw[←hw2];first | exact (SB.new w 40).on bl | trace_state
 have SR:SB w2 (w.heap.size+1) (.slice none 0 0) (.slice none 0 0) (.slice none 0 0) (.slice none 0 0) (.string ByteArray.empty) (.int .i64 0) (.slice none 0 0) (.slice none 0 0) (.slice none 0 0) (.bool false) (.int .i64 0) (.int .i64 0) (.int .i64 0):=by rw[←hw2];first | (have h:=(SB.new (w.alloc (.cells #[.slice A0 x0.length c0,.slice A1 x1.length c1,.slice A2 x2.length c2,.slice A3 x3.length c3,.string x4,.int .i64 x5,.slice A6 x6.length c6,.slice A7 x7.length c7,.slice A8 x8.length c8,.bool x9,.int .i64 x10,.int .i64 x11,.int .i64 x12] 40)) 40 (v0:=.slice none 0 0) (v1:=.slice none 0 0) (v2:=.slice none 0 0) (v3:=.slice none 0 0) (v4:=.string ByteArray.empty) (v5:=.int .i64 0) (v6:=.slice none 0 0) (v7:=.slice none 0 0) (v8:=.slice none 0 0) (v9:=.bool false) (v10:=.int .i64 0) (v11:=.int .i64 0) (v12:=.int .i64 0));rw[World.size_alloc]at h;exact h.on bl) | trace_state
 have SBB:SB w2 (w.heap.size+2) (.slice A0 x0.length c0) (.slice A1 x1.length c1) (.slice A2 x2.length c2) (.slice A3 x3.length c3) (.string x4) (.int .i64 x5) (.slice A6 x6.length c6) (.slice A7 x7.length c7) (.slice A8 x8.length c8) (.bool x9) (.int .i64 x10) (.int .i64 x11) (.int .i64 x12):=by rw[←hw2];first | (have h:=SB.new ((w.alloc (.cells #[.slice A0 x0.length c0,.slice A1 x1.length c1,.slice A2 x2.length c2,.slice A3 x3.length c3,.string x4,.int .i64 x5,.slice A6 x6.length c6,.slice A7 x7.length c7,.slice A8 x8.length c8,.bool x9,.int .i64 x10,.int .i64 x11,.int .i64 x12] 40)).alloc (.cells #[.slice none 0 0,.slice none 0 0,.slice none 0 0,.slice none 0 0,.string ByteArray.empty,.int .i64 0,.slice none 0 0,.slice none 0 0,.slice none 0 0,.bool false,.int .i64 0,.int .i64 0,.int .i64 0] 40)) 40 (v0:=.slice A0 x0.length c0) (v1:=.slice A1 x1.length c1) (v2:=.slice A2 x2.length c2) (v3:=.slice A3 x3.length c3) (v4:=.string x4) (v5:=.int .i64 x5) (v6:=.slice A6 x6.length c6) (v7:=.slice A7 x7.length c7) (v8:=.slice A8 x8.length c8) (v9:=.bool x9) (v10:=.int .i64 x10) (v11:=.int .i64 x11) (v12:=.int .i64 x12);simp only[World.size_alloc]at h;exact h) | trace_state
 have T2:=hide (show ClF w (w.heap.size+3) w2 (w.heap.size+2) w.heap.size (w.heap.size+1) (.slice A0 x0.length c0) (.slice A1 x1.length c1) (.slice A2 x2.length c2) (.slice A3 x3.length c3) (.string x4) (.int .i64 x5) (.slice A6 x6.length c6) (.slice A7 x7.length c7) (.slice A8 x8.length c8) (.bool x9) (.int .i64 x10) (.int .i64 x11) (.int .i64 x12) (.slice A0 x0.length c0) (.slice A1 x1.length c1) (.slice A2 x2.length c2) (.slice A3 x3.length c3) (.string x4) (.int .i64 x5) (.slice A6 x6.length c6) (.slice A7 x7.length c7) (.slice A8 x8.length c8) (.bool x9) (.int .i64 x10) (.int .i64 x11) (.int .i64 x12) []from⟨⟨SBB,Ents.nil _ _,hb2,by omega,by omega,by omega⟩,SQ,SR,by omega,by omega,by omega,by omega,by omega⟩)
 clear hw2 hb2 hz2 SQ SR SBB
 obtain⟨hlq,hfq,kq_0,kq_1,kq_2,kq_3,kq_4,kq_5,kq_6,kq_7,kq_8,kq_9,kq_10,kq_11,kq_12⟩:=T2.out.sb
 obtain⟨hlb,hfb,kb_0,kb_1,kb_2,kb_3,kb_4,kb_5,kb_6,kb_7,kb_8,kb_9,kb_10,kb_11,kb_12⟩:=T2.out.cl.box
 have HO5:=hide (OwnD.lit0 w2 9 1)
 obtain⟨nw,hsr⟩:=Row.src (strs_flat x0) (Row.bel (Bel.trans T2.out.cl.bel (show Bel w2 (w2.alloc (.cells #[] 9))from bl)) HR0.out)
 rw[List.length_map]at hsr
 have HSR:=hide hsr
 clear hsr
 go_wp2_with (at_builtin;refine wpList_append_D rfl (.tmp 7) (.tmp 9) 22 rfl 9 is (.string ByteArray.empty) 1 16 Tryz.underlying22 his zs0 zs1 zs2 (by decide) (by decide) HO5.out HSR.out c0 rfl rfl (fun b _ h=>by cases h) (by simp only[List.length_nil];omega) (by simp only[List.length_nil];unfold maxLen;omega) ?_)
 intro v9 w9 hO9 hg9 hw9
 have HQ:=hide (copy_bel hg9 hw9)
 have HO9:=hide (show OwnD w9 9 1 v9 [] (x0.map (fun x=>[Dat.str x]))from hO9)
 clear hO9 hg9 hw9 HO5 HSR
 clear hlq hfq kq_0 kq_1 kq_2 kq_3 kq_4 kq_5 kq_6 kq_7 kq_8 kq_9 kq_10 kq_11 kq_12 hlb hfb kb_0 kb_1 kb_2 kb_3 kb_4 kb_5 kb_6 kb_7 kb_8 kb_9 kb_10 kb_11 kb_12
 obtain⟨B0,m0,d0,rfl⟩:∃A9 n9 c9,v9=.slice A9 n9 c9:=by obtain⟨A9,c9,L9,hv9,-⟩:=HO9.out.ownRow;exact⟨_,_,_,hv9⟩
 have TT9:=hide (T2.out.on HQ.out.1)
 obtain⟨hlq9,hfq9,kq9_0,kq9_1,kq9_2,kq9_3,kq9_4,kq9_5,kq9_6,kq9_7,kq9_8,kq9_9,kq9_10,kq9_11,kq9_12⟩:=TT9.out.sb
 obtain⟨hlb9,hfb9,kb9_0,kb9_1,kb9_2,kb9_3,kb9_4,kb9_5,kb9_6,kb9_7,kb9_8,kb9_9,kb9_10,kb9_11,kb9_12⟩:=TT9.out.cl.box
 go_upto_region 3 with (fail)
 refine wp_named2 fun wq3 hwq3=>?_
 have T3:=hide (show ClF w (w.heap.size+3) wq3 (w.heap.size+2) w.heap.size (w.heap.size+1) (.slice B0 m0 d0) (.slice A1 x1.length c1) (.slice A2 x2.length c2) (.slice A3 x3.length c3) (.string x4) (.int .i64 x5) (.slice A6 x6.length c6) (.slice A7 x7.length c7) (.slice A8 x8.length c8) (.bool x9) (.int .i64 x10) (.int .i64 x11) (.int .i64 x12) (.slice A0 x0.length c0) (.slice A1 x1.length c1) (.slice A2 x2.length c2) (.slice A3 x3.length c3) (.string x4) (.int .i64 x5) (.slice A6 x6.length c6) (.slice A7 x7.length c7) (.slice A8 x8.length c8) (.bool x9) (.int .i64 x10) (.int .i64 x11) (.int .i64 x12) [⟨9,1,(.slice B0 m0 d0),[],x0.map (fun x=>[Dat.str x])⟩]from by rw[←hwq3];exact T2.out.next HQ.out.1 HO9.out HQ.out.2 0 (TT9.out.cl.box.put0 _))
 clear hlq9 hfq9 kq9_0 kq9_1 kq9_2 kq9_3 kq9_4 kq9_5 kq9_6 kq9_7 kq9_8 kq9_9 kq9_10 kq9_11 kq9_12 hlb9 hfb9 kb9_0 kb9_1 kb9_2 kb9_3 kb9_4 kb9_5 kb9_6 kb9_7 kb9_8 kb9_9 kb9_10 kb9_11 kb9_12
 clear hwq3 HQ HO9 TT9 T2
 obtain⟨hlq,hfq,kq_0,kq_1,kq_2,kq_3,kq_4,kq_5,kq_6,kq_7,kq_8,kq_9,kq_10,kq_11,kq_12⟩:=T3.out.sb
 obtain⟨hlb,hfb,kb_0,kb_1,kb_2,kb_3,kb_4,kb_5,kb_6,kb_7,kb_8,kb_9,kb_10,kb_11,kb_12⟩:=T3.out.cl.box
 go_upto_region 4 with (go_at_call 65;refine (implRecs_any x1 S _ _ _ (Row.bel T3.out.cl.bel HR1.out) hx1 HFR.out).mono ?_;rintro e w9 ⟨v9,L1,rfl,hO9,hn9,hb9⟩;have HO9:=hide hO9;have HN9:=hide hn9;have HB9:=hide hb9;clear hO9 hn9 hb9;obtain⟨B1,m1,d1,rfl⟩:∃A9 n9 c9,v9=.slice A9 n9 c9:=(by obtain⟨A9,c9,L9,hv9,-⟩:=HO9.out.ownRow;exact⟨_,_,_,hv9⟩);have TT9:=hide (T3.out.on HB9.out);obtain⟨hlb9,hfb9,kb9_0,kb9_1,kb9_2,kb9_3,kb9_4,kb9_5,kb9_6,kb9_7,kb9_8,kb9_9,kb9_10,kb9_11,kb9_12⟩:=TT9.out.cl.box)
 clear hlq hfq kq_0 kq_1 kq_2 kq_3 kq_4 kq_5 kq_6 kq_7 kq_8 kq_9 kq_10 kq_11 kq_12 hlb hfb kb_0 kb_1 kb_2 kb_3 kb_4 kb_5 kb_6 kb_7 kb_8 kb_9 kb_10 kb_11 kb_12
 refine wp_named2 fun wq4 hwq4=>?_
 have T4:=hide (show ClF w (w.heap.size+3) wq4 (w.heap.size+2) w.heap.size (w.heap.size+1) (.slice B0 m0 d0) (.slice B1 m1 d1) (.slice A2 x2.length c2) (.slice A3 x3.length c3) (.string x4) (.int .i64 x5) (.slice A6 x6.length c6) (.slice A7 x7.length c7) (.slice A8 x8.length c8) (.bool x9) (.int .i64 x10) (.int .i64 x11) (.int .i64 x12) (.slice A0 x0.length c0) (.slice A1 x1.length c1) (.slice A2 x2.length c2) (.slice A3 x3.length c3) (.string x4) (.int .i64 x5) (.slice A6 x6.length c6) (.slice A7 x7.length c7) (.slice A8 x8.length c8) (.bool x9) (.int .i64 x10) (.int .i64 x11) (.int .i64 x12) [⟨9,1,(.slice B0 m0 d0),[],x0.map (fun x=>[Dat.str x])⟩,⟨92,3,(.slice B1 m1 d1),L1,x1.map TRecordType.D⟩]from by rw[←hwq4];exact T3.out.next HB9.out HO9.out HN9.out 1 (TT9.out.cl.box.put1 _))
 clear hwq4 HB9 HO9 HN9 TT9 T3 hlb9 hfb9 kb9_0 kb9_1 kb9_2 kb9_3 kb9_4 kb9_5 kb9_6 kb9_7 kb9_8 kb9_9 kb9_10 kb9_11 kb9_12
 obtain⟨hlq,hfq,kq_0,kq_1,kq_2,kq_3,kq_4,kq_5,kq_6,kq_7,kq_8,kq_9,kq_10,kq_11,kq_12⟩:=T4.out.sb
 obtain⟨hlb,hfb,kb_0,kb_1,kb_2,kb_3,kb_4,kb_5,kb_6,kb_7,kb_8,kb_9,kb_10,kb_11,kb_12⟩:=T4.out.cl.box
 go_upto_region 5 with (fail)
 clear hlq hfq kq_0 kq_1 kq_2 kq_3 kq_4 kq_5 kq_6 kq_7 kq_8 kq_9 kq_10 kq_11 kq_12 hlb hfb kb_0 kb_1 kb_2 kb_3 kb_4 kb_5 kb_6 kb_7 kb_8 kb_9 kb_10 kb_11 kb_12
 refine wp_named2 fun wq5 hwq5=>?_
 have T5:=hide (show ClF w (w.heap.size+3) wq5 (w.heap.size+2) w.heap.size (w.heap.size+1) (.slice B0 m0 d0) (.slice B1 m1 d1) (.slice none 0 0) (.slice A3 x3.length c3) (.string x4) (.int .i64 x5) (.slice A6 x6.length c6) (.slice A7 x7.length c7) (.slice A8 x8.length c8) (.bool x9) (.int .i64 x10) (.int .i64 x11) (.int .i64 x12) (.slice A0 x0.length c0) (.slice A1 x1.length c1) (.slice A2 x2.length c2) (.slice A3 x3.length c3) (.string x4) (.int .i64 x5) (.slice A6 x6.length c6) (.slice A7 x7.length c7) (.slice A8 x8.length c8) (.bool x9) (.int .i64 x10) (.int .i64 x11) (.int .i64 x12) [⟨9,1,(.slice B0 m0 d0),[],x0.map (fun x=>[Dat.str x])⟩,⟨92,3,(.slice B1 m1 d1),L1,x1.map TRecordType.D⟩,⟨89,5,(.slice none 0 0),[],[]⟩]from by rw[←hwq5];exact T4.out.next (Bel.refl _) (OwnD.nil _ _ _) (fun x hx=>(OwnD.blk_nil hx).elim) 2 (T4.out.cl.box.put2 _))
 clear hwq5 T4
 obtain⟨hlq,hfq,kq_0,kq_1,kq_2,kq_3,kq_4,kq_5,kq_6,kq_7,kq_8,kq_9,kq_10,kq_11,kq_12⟩:=T5.out.sb
 obtain⟨hlb,hfb,kb_0,kb_1,kb_2,kb_3,kb_4,kb_5,kb_6,kb_7,kb_8,kb_9,kb_10,kb_11,kb_12⟩:=T5.out.cl.box
 go_wp2_with (fail)
 clear hlq hfq kq_0 kq_1 kq_2 kq_3 kq_4 kq_5 kq_6 kq_7 kq_8 kq_9 kq_10 kq_11 kq_12 hlb hfb kb_0 kb_1 kb_2 kb_3 kb_4 kb_5 kb_6 kb_7 kb_8 kb_9 kb_10 kb_11 kb_12
 go_loopw [20] (fun iv wr=>∃(i:Nat) (v:Value) (L:List Nat),iv=.int .i64 i∧i≤x2.length∧Hid (ClF w (w.heap.size+3) wr (w.heap.size+2) w.heap.size (w.heap.size+1) (.slice B0 m0 d0) (.slice B1 m1 d1) v (.slice A3 x3.length c3) (.string x4) (.int .i64 x5) (.slice A6 x6.length c6) (.slice A7 x7.length c7) (.slice A8 x8.length c8) (.bool x9) (.int .i64 x10) (.int .i64 x11) (.int .i64 x12) (.slice A0 x0.length c0) (.slice A1 x1.length c1) (.slice A2 x2.length c2) (.slice A3 x3.length c3) (.string x4) (.int .i64 x5) (.slice A6 x6.length c6) (.slice A7 x7.length c7) (.slice A8 x8.length c8) (.bool x9) (.int .i64 x10) (.int .i64 x11) (.int .i64 x12) [⟨9,1,(.slice B0 m0 d0),[],x0.map (fun x=>[Dat.str x])⟩,⟨92,3,(.slice B1 m1 d1),L1,x1.map TRecordType.D⟩,⟨89,5,v,L,(x2.take i).map TObject.D⟩])) (fun iv _=>x2.length - (intOf iv).toNat)
 case atStart=>exact⟨0,_,[],rfl,Nat.zero_le _,hide (by have h:=T5.out;simpa only[List.take_zero,List.map_nil]using h)⟩
 case round =>
  obtain⟨i,v,L,rfl,hi,HT⟩:=hrel
  clear T5
  by_cases h:i<x2.length
  ·
   skip
   have hdc:decide ((i:Int)<(x2.length:Int))=true:=by simp;omega
   have hdn:decide (i<x2.length)=true:=by simp[h]
   have hbw:=HT.out.cl.bel
   have hi0:(0:Int)≤(i:Int):=by omega
   have hi1:(i:Int)<(x2.length:Int):=by omega
   (obtain⟨b1,o1,x1_0,x1_1,x1_2,x1_3,x1_4,A1_3,C1_3,A1_4,C1_4,hA1,hS1,hl1,hx1,hv1,g1_0,g1_1,g1_2,g1_3,g1_4,c1_0,c1_1,c1_2,c1_3,c1_4⟩:=TObject.at HR2.out i h;subst hA1;have HV1:=hide (Dat.HoldVals.bel hbw hv1);have hh1:=hbw.box b1 hl1;have hw1:=Nat.lt_of_lt_of_le hl1 (Bel.size hbw);replace c1_0:=(hh1 _).trans c1_0;replace c1_1:=(hh1 _).trans c1_1;replace c1_2:=(hh1 _).trans c1_2;replace c1_3:=(hh1 _).trans c1_3;replace c1_4:=(hh1 _).trans c1_4;have HX1:=hide hx1;have GR1_3:=hide g1_3;have GR1_4:=hide g1_4;clear hh1 hv1 hx1 hS1 g1_3 g1_4)
   have hfo:=HFO.out i h
   rw[HX1.out]at hfo
   simp only[TObject.its,TObject.kys]at hfo
   have hlf3:=GR1_3.out.1
   have hmf3:=GR1_3.out.2.1
   simp only[List.length_map]at hlf3
   unfold maxLen at hmf3
   have hlf4:=GR1_4.out.1
   have hmf4:=GR1_4.out.2.1
   simp only[List.length_map]at hlf4
   unfold maxLen at hmf4
   go_upto_region 8 with (fail)
   refine wp_named2 fun wA hwA=>?_
   have hbA:Bel wr wA:=by rw[←hwA];exact bl
   have OA:=hide (show OB wA wr.heap.size (.int .i64 x1_0) (.int .i64 x1_1) (.int .i64 x1_2) (.slice A1_3 x1_3.length C1_3) (.slice A1_4 x1_4.length C1_4)from by rw[←hwA];first | exact OB.new _ _ | exact (((((OB.new _ _).put0 _).put1 _).put2 _).put3 _).put4 _)
   have hzA:wr.heap.size<wA.heap.size:=OA.out.1
   clear hwA
   obtain⟨hlo,hfo3,q0,q1,q2,q3,q4⟩:=OA.out
   have HO5:=hide (OwnD.lit0 wA 43 6)
   obtain⟨nw,hsr⟩:=Row.src (val_flat x1_3) (Row.bel (Bel.trans hbw (Bel.trans hbA (show Bel wA (wA.alloc (.cells #[] 43))from bl))) GR1_3.out)
   rw[List.length_map]at hsr
   have HSR:=hide hsr
   clear hsr
   go_wp2_with (at_builtin;refine wpList_append_D rfl (.tmp 24) (.tmp 26) 37 rfl 43 iv (.agg #[.int .i64 0,.int .i64 0,.int .i64 0,.string ByteArray.empty,.int .i64 0,.int .i64 0]) 6 56 Tryz.underlying37 hiv zv0 zv1 zv2 (by decide) (by decide) HO5.out HSR.out C1_3 rfl rfl (fun b _ h=>by cases h) (by simp only[List.length_nil];omega) (by simp only[List.length_nil];unfold maxLen;omega) ?_)
   intro vI wI hO9 hg9 hw9
   have HQI:=hide (copy_bel hg9 hw9)
   have HOI:=hide (show OwnD wI 43 6 vI [] (x1_3.map TValue.D)from hO9)
   clear hO9 hg9 hw9 HO5 HSR hlo hfo3 q0 q1 q2 q3 q4
   obtain⟨AI,nI,dI,rfl⟩:∃A9 n9 c9,vI=.slice A9 n9 c9:=by obtain⟨A9,c9,L9,hv9,-⟩:=HOI.out.ownRow;exact⟨_,_,_,hv9⟩
   have OB9:=hide (OA.out.on HQI.out.1)
   obtain⟨hlo,hfo3,q0,q1,q2,q3,q4⟩:=OB9.out
   go_upto_region 9 with (fail)
   refine wp_named2 fun yI hyI=>?_
   have OI:=hide (show OB yI wr.heap.size (.int .i64 x1_0) (.int .i64 x1_1) (.int .i64 x1_2) (.slice AI nI dI) (.slice A1_4 x1_4.length C1_4)from by rw[←hyI];exact OB9.out.put3 _)
   have hbI:Bel wr yI:=by rw[←hyI];exact Below.setCell (Bel.trans hbA HQI.out.1) (Nat.le_refl _) _
   have HPI:=hide (show OwnD yI 43 6 (.slice AI nI dI) [] (x1_3.map TValue.D)from by rw[←hyI];exact HOI.out.keep (by simp) (fun x hx=>set_block 3 _ (fun e=>by have:=HQI.out.2 x hx;omega)))
   have hzI:wI.heap.size≤yI.heap.size:=by rw[←hyI];simp
   have hsI:=HQI.out.1.size
   clear hyI OB9 hlo hfo3 q0 q1 q2 q3 q4 HOI
   obtain⟨hlo,hfo4,q0,q1,q2,q3,q4⟩:=OI.out
   have HO5:=hide (OwnD.lit0 yI 43 6)
   obtain⟨nw,hsr⟩:=Row.src (val_flat x1_4) (Row.bel (Bel.trans hbw (Bel.trans hbI (show Bel yI (yI.alloc (.cells #[] 43))from bl))) GR1_4.out)
   rw[List.length_map]at hsr
   have HSR:=hide hsr
   clear hsr
   go_wp2_with (at_builtin;refine wpList_append_D rfl (.tmp 29) (.tmp 31) 37 rfl 43 iv (.agg #[.int .i64 0,.int .i64 0,.int .i64 0,.string ByteArray.empty,.int .i64 0,.int .i64 0]) 6 56 Tryz.underlying37 hiv zv0 zv1 zv2 (by decide) (by decide) HO5.out HSR.out C1_4 rfl rfl (fun b _ h=>by cases h) (by simp only[List.length_nil];omega) (by simp only[List.length_nil];unfold maxLen;omega) ?_)
   intro vJ wJ hO9 hg9 hw9
   have HQJ:=hide (copy_bel hg9 hw9)
   have HOJ:=hide (show OwnD wJ 43 6 vJ [] (x1_4.map TValue.D)from hO9)
   clear hO9 hg9 hw9 HO5 HSR hlo hfo4 q0 q1 q2 q3 q4
   obtain⟨AJ,nJ,dJ,rfl⟩:∃A9 n9 c9,vJ=.slice A9 n9 c9:=by obtain⟨A9,c9,L9,hv9,-⟩:=HOJ.out.ownRow;exact⟨_,_,_,hv9⟩
   have OB9:=hide (OI.out.on HQJ.out.1)
   obtain⟨hlo,hfo4,q0,q1,q2,q3,q4⟩:=OB9.out
   go_upto_region 10 with (fail)
   refine wp_named2 fun yJ hyJ=>?_
   have OJ:=hide (show OB yJ wr.heap.size (.int .i64 x1_0) (.int .i64 x1_1) (.int .i64 x1_2) (.slice AI nI dI) (.slice AJ nJ dJ)from by rw[←hyJ];exact OB9.out.put4 _)
   have hbJ:Bel wr yJ:=by rw[←hyJ];exact Below.setCell (Bel.trans hbI HQJ.out.1) (Nat.le_refl _) _
   have HPJ:=hide (show OwnD yJ 43 6 (.slice AJ nJ dJ) [] (x1_4.map TValue.D)from by rw[←hyJ];exact HOJ.out.keep (by simp) (fun x hx=>set_block 4 _ (fun e=>by have:=HQJ.out.2 x hx;omega)))
   have HPI2:=hide (show OwnD yJ 43 6 (.slice AI nI dI) [] (x1_3.map TValue.D)from by rw[←hyJ];exact (HPI.out.bel HQJ.out.1).keep (by simp) (fun x hx=>set_block 4 _ (fun e=>by have:=HQI.out.2 x hx;omega)))
   have hzJ:wJ.heap.size≤yJ.heap.size:=by rw[←hyJ];simp
   have hsJ:=HQJ.out.1.size
   clear hyJ OB9 hlo hfo4 q0 q1 q2 q3 q4 HOJ
   obtain⟨AI2,cI2,LI,eI,rI,nI2,mI⟩:=HPI2.out.ownRow
   obtain⟨AJ2,cJ2,LJ,eJ,rJ,nJ2,mJ⟩:=HPJ.out.ownRow
   simp only[List.length_map]at eI eJ
   injection eI with eI1 eI2 eI3
   injection eJ with eJ1 eJ2 eJ3
   subst eI1 eI2 eI3 eJ1 eJ2 eJ3
   have HOVv:=hide (TObject.own_mk g1_0 g1_1 g1_2 rI rJ)
   have hltI:=HPI.out.lt
   have HND:=hide (show (LI++LJ).Nodup from nodup_app nI2 nJ2 (fun a ha hb=>by have h1:=hltI a (mI a ha);have h2:=HQJ.out.2 a (mJ a hb);omega))
   have HLM:=hide (show ∀a,a∈LI++LJ→wr.heap.size<a from fun a ha=>(List.mem_append.1 ha).elim (fun q=>by have:=HQI.out.2 a (mI a q);omega) (fun q=>by have:=HQJ.out.2 a (mJ a q);omega))
   clear rI rJ nI2 nJ2 mI mJ hltI
   obtain⟨hlo,hfo5,q0,q1,q2,q3,q4⟩:=OJ.out
   have TJ:=hide (HT.out.on hbJ)
   obtain⟨hlb9,hfb9,kb9_0,kb9_1,kb9_2,kb9_3,kb9_4,kb9_5,kb9_6,kb9_7,kb9_8,kb9_9,kb9_10,kb9_11,kb9_12⟩:=TJ.out.cl.box
   have HOO:=hide (show OwnD (yJ.alloc (.cells #[.int .i64 x1_0,.int .i64 x1_1,.int .i64 x1_2,.slice AI x1_3.length dI,.slice AJ x1_4.length dJ] 89)) 89 5 v L ((x2.take i).map TObject.D)from (TJ.out.cl.ents.own ⟨89,5,v,L,(x2.take i).map TObject.D⟩ (by simp)).bel bl)
   obtain⟨nw,hsr⟩:=(OwnD.lit1 (k:=5) yJ 89 HOVv.out rfl HND.out).src
   have HSR:=hide hsr
   clear hsr
   have HLV:=hide (HT.out.cl.ents.own ⟨89,5,v,L,(x2.take i).map TObject.D⟩ (by simp)).lt
   go_wp2_with (at_builtin;refine wpList_append_D rfl (.tmp 35) (.tmp 37) 36 rfl 89 io (.agg #[.int .i64 0,.int .i64 0,.int .i64 0,.slice none 0 0,.slice none 0 0]) 5 72 Tryz.underlying36 hio zo0 zo1 zo2 (by decide) (by decide) HOO.out HSR.out 1 rfl rfl (fun b hb hm=>by have h1:=HLV.out b hb;have h2:=HLM.out b hm;omega) (by rw[List.length_map,List.length_take];omega) (by rw[List.length_map,List.length_take];unfold maxLen;omega) ?_)
   intro v9 w9 hO9 hg9 hw9
   have hO9b:OwnD w9 89 5 v9 (L++(LI++LJ)) ((x2.take (i+1)).map TObject.D):=by rw[take_D TObject.D h,HX1.out];first | exact hO9 | (rw[List.map_take];exact hO9)
   obtain⟨A9,n9,c9,rfl⟩:∃A9 n9 c9,v9=.slice A9 n9 c9:=by obtain⟨A9,c9,L9,hv9,-⟩:=hO9.ownRow;exact⟨_,_,_,hv9⟩
   have HGR:=hide (ClF.grow (l:=[⟨9,1,(.slice B0 m0 d0),[],x0.map (fun x=>[Dat.str x])⟩,⟨92,3,(.slice B1 m1 d1),L1,x1.map TRecordType.D⟩]) (e:=⟨89,5,v,L,(x2.take i).map TObject.D⟩) (e':=⟨89,5,.slice A9 n9 c9,L++(LI++LJ),(x2.take (i+1)).map TObject.D⟩) HT.out (Bel.trans hbJ (show Bel yJ (yJ.alloc (.cells #[.int .i64 x1_0,.int .i64 x1_1,.int .i64 x1_2,.slice AI x1_3.length dI,.slice AJ x1_4.length dJ] 89))from bl)) hg9 hO9b (fun x hx=>by rcases hx with hx | hx;rcases hw9 x hx with e | e;exact Or.inl (Or.inl e);right;(try rw[World.size_alloc]at e);have:=hbJ.size;omega;rcases List.mem_append.1 hx with hx | hx;exact Or.inl (Or.inr hx);right;have:=HLM.out x hx;omega))
   obtain⟨GB,GN⟩:=HGR.out
   have HGN:=hide (GN 2 (.slice A9 n9 c9) (GB.put2 _))
   clear GN HGR hO9 hO9b hg9 hw9 hlo hfo5 q0 q1 q2 q3 q4 hlb9 hfb9 kb9_0 kb9_1 kb9_2 kb9_3 kb9_4 kb9_5 kb9_6 kb9_7 kb9_8 kb9_9 kb9_10 kb9_11 kb9_12
   obtain⟨hlb8,hfb8,kb8_0,kb8_1,kb8_2,kb8_3,kb8_4,kb8_5,kb8_6,kb8_7,kb8_8,kb8_9,kb8_10,kb8_11,kb8_12⟩:=GB
   exact rk212
  ·
   skip
   have hdc:decide ((i:Int)<(x2.length:Int))=false:=by simp;omega
   have hdn:decide (i<x2.length)=false:=by simp;omega
   obtain⟨B2,m2,d2,rfl⟩:∃A9 n9 c9,v=.slice A9 n9 c9:=by obtain⟨A9,c9,L9,hv9,-⟩:=(HT.out.cl.ents.own ⟨89,5,v,L,(x2.take i).map TObject.D⟩ (by simp)).ownRow;exact⟨_,_,_,hv9⟩
   have T6:=hide (show ClF w (w.heap.size+3) wr (w.heap.size+2) w.heap.size (w.heap.size+1) (.slice B0 m0 d0) (.slice B1 m1 d1) (.slice B2 m2 d2) (.slice A3 x3.length c3) (.string x4) (.int .i64 x5) (.slice A6 x6.length c6) (.slice A7 x7.length c7) (.slice A8 x8.length c8) (.bool x9) (.int .i64 x10) (.int .i64 x11) (.int .i64 x12) (.slice A0 x0.length c0) (.slice A1 x1.length c1) (.slice A2 x2.length c2) (.slice A3 x3.length c3) (.string x4) (.int .i64 x5) (.slice A6 x6.length c6) (.slice A7 x7.length c7) (.slice A8 x8.length c8) (.bool x9) (.int .i64 x10) (.int .i64 x11) (.int .i64 x12) [⟨9,1,(.slice B0 m0 d0),[],x0.map (fun x=>[Dat.str x])⟩,⟨92,3,(.slice B1 m1 d1),L1,x1.map TRecordType.D⟩,⟨89,5,(.slice B2 m2 d2),L,x2.map TObject.D⟩]from by have h:=HT.out;rw[List.take_of_length_le (show x2.length≤i by omega)]at h;exact h)
   clear HT
   go_upto_region 12 with (fail)
   obtain⟨hlq,hfq,kq_0,kq_1,kq_2,kq_3,kq_4,kq_5,kq_6,kq_7,kq_8,kq_9,kq_10,kq_11,kq_12⟩:=T6.out.sb
   obtain⟨hlb,hfb,kb_0,kb_1,kb_2,kb_3,kb_4,kb_5,kb_6,kb_7,kb_8,kb_9,kb_10,kb_11,kb_12⟩:=T6.out.cl.box
   have HO5:=hide (OwnD.lit0 wr 43 6)
   obtain⟨nw,hsr⟩:=Row.src (val_flat x3) (Row.bel (Bel.trans T6.out.cl.bel (show Bel wr (wr.alloc (.cells #[] 43))from bl)) HR3.out)
   rw[List.length_map]at hsr
   have HSR:=hide hsr
   clear hsr
   go_wp2_with (at_builtin;refine wpList_append_D rfl (.tmp 41) (.tmp 43) 37 rfl 43 iv (.agg #[.int .i64 0,.int .i64 0,.int .i64 0,.string ByteArray.empty,.int .i64 0,.int .i64 0]) 6 56 Tryz.underlying37 hiv zv0 zv1 zv2 (by decide) (by decide) HO5.out HSR.out c3 rfl rfl (fun b _ h=>by cases h) (by simp only[List.length_nil];omega) (by simp only[List.length_nil];unfold maxLen;omega) ?_)
   intro v9 w9 hO9 hg9 hw9
   have HQ:=hide (copy_bel hg9 hw9)
   have HO9:=hide (show OwnD w9 43 6 v9 [] (x3.map TValue.D)from hO9)
   clear hO9 hg9 hw9 HO5 HSR
   clear hlq hfq kq_0 kq_1 kq_2 kq_3 kq_4 kq_5 kq_6 kq_7 kq_8 kq_9 kq_10 kq_11 kq_12 hlb hfb kb_0 kb_1 kb_2 kb_3 kb_4 kb_5 kb_6 kb_7 kb_8 kb_9 kb_10 kb_11 kb_12
   obtain⟨B3,m3,d3,rfl⟩:∃A9 n9 c9,v9=.slice A9 n9 c9:=by obtain⟨A9,c9,L9,hv9,-⟩:=HO9.out.ownRow;exact⟨_,_,_,hv9⟩
   have TT9:=hide (T6.out.on HQ.out.1)
   obtain⟨hlq9,hfq9,kq9_0,kq9_1,kq9_2,kq9_3,kq9_4,kq9_5,kq9_6,kq9_7,kq9_8,kq9_9,kq9_10,kq9_11,kq9_12⟩:=TT9.out.sb
   obtain⟨hlb9,hfb9,kb9_0,kb9_1,kb9_2,kb9_3,kb9_4,kb9_5,kb9_6,kb9_7,kb9_8,kb9_9,kb9_10,kb9_11,kb9_12⟩:=TT9.out.cl.box
   go_upto_region 13 with (fail)
   refine wp_named2 fun wq7 hwq7=>?_
   have T7:=hide (show ClF w (w.heap.size+3) wq7 (w.heap.size+2) w.heap.size (w.heap.size+1) (.slice B0 m0 d0) (.slice B1 m1 d1) (.slice B2 m2 d2) (.slice B3 m3 d3) (.string x4) (.int .i64 x5) (.slice A6 x6.length c6) (.slice A7 x7.length c7) (.slice A8 x8.length c8) (.bool x9) (.int .i64 x10) (.int .i64 x11) (.int .i64 x12) (.slice A0 x0.length c0) (.slice A1 x1.length c1) (.slice A2 x2.length c2) (.slice A3 x3.length c3) (.string x4) (.int .i64 x5) (.slice A6 x6.length c6) (.slice A7 x7.length c7) (.slice A8 x8.length c8) (.bool x9) (.int .i64 x10) (.int .i64 x11) (.int .i64 x12) [⟨9,1,(.slice B0 m0 d0),[],x0.map (fun x=>[Dat.str x])⟩,⟨92,3,(.slice B1 m1 d1),L1,x1.map TRecordType.D⟩,⟨89,5,(.slice B2 m2 d2),L,x2.map TObject.D⟩,⟨43,6,(.slice B3 m3 d3),[],x3.map TValue.D⟩]from by rw[←hwq7];exact T6.out.next HQ.out.1 HO9.out HQ.out.2 3 (TT9.out.cl.box.put3 _))
   clear hlq9 hfq9 kq9_0 kq9_1 kq9_2 kq9_3 kq9_4 kq9_5 kq9_6 kq9_7 kq9_8 kq9_9 kq9_10 kq9_11 kq9_12 hlb9 hfb9 kb9_0 kb9_1 kb9_2 kb9_3 kb9_4 kb9_5 kb9_6 kb9_7 kb9_8 kb9_9 kb9_10 kb9_11 kb9_12
   clear hwq7 HQ HO9 TT9 T6
   obtain⟨hlq,hfq,kq_0,kq_1,kq_2,kq_3,kq_4,kq_5,kq_6,kq_7,kq_8,kq_9,kq_10,kq_11,kq_12⟩:=T7.out.sb
   obtain⟨hlb,hfb,kb_0,kb_1,kb_2,kb_3,kb_4,kb_5,kb_6,kb_7,kb_8,kb_9,kb_10,kb_11,kb_12⟩:=T7.out.cl.box
   have HO5:=hide (OwnD.lit0 wq7 9 1)
   obtain⟨nw,hsr⟩:=Row.src (strs_flat x6) (Row.bel (Bel.trans T7.out.cl.bel (show Bel wq7 (wq7.alloc (.cells #[] 9))from bl)) HR6.out)
   rw[List.length_map]at hsr
   have HSR:=hide hsr
   clear hsr
   go_wp2_with (at_builtin;refine wpList_append_D rfl (.tmp 46) (.tmp 48) 22 rfl 9 is (.string ByteArray.empty) 1 16 Tryz.underlying22 his zs0 zs1 zs2 (by decide) (by decide) HO5.out HSR.out c6 rfl rfl (fun b _ h=>by cases h) (by simp only[List.length_nil];omega) (by simp only[List.length_nil];unfold maxLen;omega) ?_)
   intro v9 w9 hO9 hg9 hw9
   have HQ:=hide (copy_bel hg9 hw9)
   have HO9:=hide (show OwnD w9 9 1 v9 [] (x6.map (fun x=>[Dat.str x]))from hO9)
   clear hO9 hg9 hw9 HO5 HSR
   clear hlq hfq kq_0 kq_1 kq_2 kq_3 kq_4 kq_5 kq_6 kq_7 kq_8 kq_9 kq_10 kq_11 kq_12 hlb hfb kb_0 kb_1 kb_2 kb_3 kb_4 kb_5 kb_6 kb_7 kb_8 kb_9 kb_10 kb_11 kb_12
   obtain⟨B6,m6,d6,rfl⟩:∃A9 n9 c9,v9=.slice A9 n9 c9:=by obtain⟨A9,c9,L9,hv9,-⟩:=HO9.out.ownRow;exact⟨_,_,_,hv9⟩
   have TT9:=hide (T7.out.on HQ.out.1)
   obtain⟨hlq9,hfq9,kq9_0,kq9_1,kq9_2,kq9_3,kq9_4,kq9_5,kq9_6,kq9_7,kq9_8,kq9_9,kq9_10,kq9_11,kq9_12⟩:=TT9.out.sb
   obtain⟨hlb9,hfb9,kb9_0,kb9_1,kb9_2,kb9_3,kb9_4,kb9_5,kb9_6,kb9_7,kb9_8,kb9_9,kb9_10,kb9_11,kb9_12⟩:=TT9.out.cl.box
   go_upto_region 14 with (fail)
   refine wp_named2 fun wq8 hwq8=>?_
   have T8:=hide (show ClF w (w.heap.size+3) wq8 (w.heap.size+2) w.heap.size (w.heap.size+1) (.slice B0 m0 d0) (.slice B1 m1 d1) (.slice B2 m2 d2) (.slice B3 m3 d3) (.string x4) (.int .i64 x5) (.slice B6 m6 d6) (.slice A7 x7.length c7) (.slice A8 x8.length c8) (.bool x9) (.int .i64 x10) (.int .i64 x11) (.int .i64 x12) (.slice A0 x0.length c0) (.slice A1 x1.length c1) (.slice A2 x2.length c2) (.slice A3 x3.length c3) (.string x4) (.int .i64 x5) (.slice A6 x6.length c6) (.slice A7 x7.length c7) (.slice A8 x8.length c8) (.bool x9) (.int .i64 x10) (.int .i64 x11) (.int .i64 x12) [⟨9,1,(.slice B0 m0 d0),[],x0.map (fun x=>[Dat.str x])⟩,⟨92,3,(.slice B1 m1 d1),L1,x1.map TRecordType.D⟩,⟨89,5,(.slice B2 m2 d2),L,x2.map TObject.D⟩,⟨43,6,(.slice B3 m3 d3),[],x3.map TValue.D⟩,⟨9,1,(.slice B6 m6 d6),[],x6.map (fun x=>[Dat.str x])⟩]from by rw[←hwq8];exact T7.out.next HQ.out.1 HO9.out HQ.out.2 6 (TT9.out.cl.box.put6 _))
   clear hlq9 hfq9 kq9_0 kq9_1 kq9_2 kq9_3 kq9_4 kq9_5 kq9_6 kq9_7 kq9_8 kq9_9 kq9_10 kq9_11 kq9_12 hlb9 hfb9 kb9_0 kb9_1 kb9_2 kb9_3 kb9_4 kb9_5 kb9_6 kb9_7 kb9_8 kb9_9 kb9_10 kb9_11 kb9_12
   clear hwq8 HQ HO9 TT9 T7
   obtain⟨hlq,hfq,kq_0,kq_1,kq_2,kq_3,kq_4,kq_5,kq_6,kq_7,kq_8,kq_9,kq_10,kq_11,kq_12⟩:=T8.out.sb
   obtain⟨hlb,hfb,kb_0,kb_1,kb_2,kb_3,kb_4,kb_5,kb_6,kb_7,kb_8,kb_9,kb_10,kb_11,kb_12⟩:=T8.out.cl.box
   have HO5:=hide (OwnD.lit0 wq8 9 1)
   obtain⟨nw,hsr⟩:=Row.src (strs_flat x7) (Row.bel (Bel.trans T8.out.cl.bel (show Bel wq8 (wq8.alloc (.cells #[] 9))from bl)) HR7.out)
   rw[List.length_map]at hsr
   have HSR:=hide hsr
   clear hsr
   go_wp2_with (at_builtin;refine wpList_append_D rfl (.tmp 51) (.tmp 53) 22 rfl 9 is (.string ByteArray.empty) 1 16 Tryz.underlying22 his zs0 zs1 zs2 (by decide) (by decide) HO5.out HSR.out c7 rfl rfl (fun b _ h=>by cases h) (by simp only[List.length_nil];omega) (by simp only[List.length_nil];unfold maxLen;omega) ?_)
   intro v9 w9 hO9 hg9 hw9
   have HQ:=hide (copy_bel hg9 hw9)
   have HO9:=hide (show OwnD w9 9 1 v9 [] (x7.map (fun x=>[Dat.str x]))from hO9)
   clear hO9 hg9 hw9 HO5 HSR
   clear hlq hfq kq_0 kq_1 kq_2 kq_3 kq_4 kq_5 kq_6 kq_7 kq_8 kq_9 kq_10 kq_11 kq_12 hlb hfb kb_0 kb_1 kb_2 kb_3 kb_4 kb_5 kb_6 kb_7 kb_8 kb_9 kb_10 kb_11 kb_12
   obtain⟨B7,m7,d7,rfl⟩:∃A9 n9 c9,v9=.slice A9 n9 c9:=by obtain⟨A9,c9,L9,hv9,-⟩:=HO9.out.ownRow;exact⟨_,_,_,hv9⟩
   have TT9:=hide (T8.out.on HQ.out.1)
   obtain⟨hlq9,hfq9,kq9_0,kq9_1,kq9_2,kq9_3,kq9_4,kq9_5,kq9_6,kq9_7,kq9_8,kq9_9,kq9_10,kq9_11,kq9_12⟩:=TT9.out.sb
   obtain⟨hlb9,hfb9,kb9_0,kb9_1,kb9_2,kb9_3,kb9_4,kb9_5,kb9_6,kb9_7,kb9_8,kb9_9,kb9_10,kb9_11,kb9_12⟩:=TT9.out.cl.box
   go_upto_region 15 with (fail)
   refine wp_named2 fun wq9 hwq9=>?_
   have T9:=hide (show ClF w (w.heap.size+3) wq9 (w.heap.size+2) w.heap.size (w.heap.size+1) (.slice B0 m0 d0) (.slice B1 m1 d1) (.slice B2 m2 d2) (.slice B3 m3 d3) (.string x4) (.int .i64 x5) (.slice B6 m6 d6) (.slice B7 m7 d7) (.slice A8 x8.length c8) (.bool x9) (.int .i64 x10) (.int .i64 x11) (.int .i64 x12) (.slice A0 x0.length c0) (.slice A1 x1.length c1) (.slice A2 x2.length c2) (.slice A3 x3.length c3) (.string x4) (.int .i64 x5) (.slice A6 x6.length c6) (.slice A7 x7.length c7) (.slice A8 x8.length c8) (.bool x9) (.int .i64 x10) (.int .i64 x11) (.int .i64 x12) [⟨9,1,(.slice B0 m0 d0),[],x0.map (fun x=>[Dat.str x])⟩,⟨92,3,(.slice B1 m1 d1),L1,x1.map TRecordType.D⟩,⟨89,5,(.slice B2 m2 d2),L,x2.map TObject.D⟩,⟨43,6,(.slice B3 m3 d3),[],x3.map TValue.D⟩,⟨9,1,(.slice B6 m6 d6),[],x6.map (fun x=>[Dat.str x])⟩,⟨9,1,(.slice B7 m7 d7),[],x7.map (fun x=>[Dat.str x])⟩]from by rw[←hwq9];exact T8.out.next HQ.out.1 HO9.out HQ.out.2 7 (TT9.out.cl.box.put7 _))
   clear hlq9 hfq9 kq9_0 kq9_1 kq9_2 kq9_3 kq9_4 kq9_5 kq9_6 kq9_7 kq9_8 kq9_9 kq9_10 kq9_11 kq9_12 hlb9 hfb9 kb9_0 kb9_1 kb9_2 kb9_3 kb9_4 kb9_5 kb9_6 kb9_7 kb9_8 kb9_9 kb9_10 kb9_11 kb9_12
   clear hwq9 HQ HO9 TT9 T8
   obtain⟨hlq,hfq,kq_0,kq_1,kq_2,kq_3,kq_4,kq_5,kq_6,kq_7,kq_8,kq_9,kq_10,kq_11,kq_12⟩:=T9.out.sb
   obtain⟨hlb,hfb,kb_0,kb_1,kb_2,kb_3,kb_4,kb_5,kb_6,kb_7,kb_8,kb_9,kb_10,kb_11,kb_12⟩:=T9.out.cl.box
   have HO5:=hide (OwnD.lit0 wq9 96 2)
   obtain⟨nw,hsr⟩:=Row.src (act_flat x8) (Row.bel (Bel.trans T9.out.cl.bel (show Bel wq9 (wq9.alloc (.cells #[] 96))from bl)) HR8.out)
   rw[List.length_map]at hsr
   have HSR:=hide hsr
   clear hsr
   go_wp2_with (at_builtin;refine wpList_append_D rfl (.tmp 56) (.tmp 58) 38 rfl 96 ia (.agg #[.int .i64 0,.int .i64 0]) 2 16 Tryz.underlying38 hia za0 za1 za2 (by decide) (by decide) HO5.out HSR.out c8 rfl rfl (fun b _ h=>by cases h) (by simp only[List.length_nil];omega) (by simp only[List.length_nil];unfold maxLen;omega) ?_)
   intro v9 w9 hO9 hg9 hw9
   have HQ:=hide (copy_bel hg9 hw9)
   have HO9:=hide (show OwnD w9 96 2 v9 [] (x8.map TActive.D)from hO9)
   clear hO9 hg9 hw9 HO5 HSR
   clear hlq hfq kq_0 kq_1 kq_2 kq_3 kq_4 kq_5 kq_6 kq_7 kq_8 kq_9 kq_10 kq_11 kq_12 hlb hfb kb_0 kb_1 kb_2 kb_3 kb_4 kb_5 kb_6 kb_7 kb_8 kb_9 kb_10 kb_11 kb_12
   obtain⟨B8,m8,d8,rfl⟩:∃A9 n9 c9,v9=.slice A9 n9 c9:=by obtain⟨A9,c9,L9,hv9,-⟩:=HO9.out.ownRow;exact⟨_,_,_,hv9⟩
   have TT9:=hide (T9.out.on HQ.out.1)
   obtain⟨hlq9,hfq9,kq9_0,kq9_1,kq9_2,kq9_3,kq9_4,kq9_5,kq9_6,kq9_7,kq9_8,kq9_9,kq9_10,kq9_11,kq9_12⟩:=TT9.out.sb
   obtain⟨hlb9,hfb9,kb9_0,kb9_1,kb9_2,kb9_3,kb9_4,kb9_5,kb9_6,kb9_7,kb9_8,kb9_9,kb9_10,kb9_11,kb9_12⟩:=TT9.out.cl.box
   go_upto_region 16 with (fail)
   refine wp_named2 fun wq10 hwq10=>?_
   have T10:=hide (show ClF w (w.heap.size+3) wq10 (w.heap.size+2) w.heap.size (w.heap.size+1) (.slice B0 m0 d0) (.slice B1 m1 d1) (.slice B2 m2 d2) (.slice B3 m3 d3) (.string x4) (.int .i64 x5) (.slice B6 m6 d6) (.slice B7 m7 d7) (.slice B8 m8 d8) (.bool x9) (.int .i64 x10) (.int .i64 x11) (.int .i64 x12) (.slice A0 x0.length c0) (.slice A1 x1.length c1) (.slice A2 x2.length c2) (.slice A3 x3.length c3) (.string x4) (.int .i64 x5) (.slice A6 x6.length c6) (.slice A7 x7.length c7) (.slice A8 x8.length c8) (.bool x9) (.int .i64 x10) (.int .i64 x11) (.int .i64 x12) [⟨9,1,(.slice B0 m0 d0),[],x0.map (fun x=>[Dat.str x])⟩,⟨92,3,(.slice B1 m1 d1),L1,x1.map TRecordType.D⟩,⟨89,5,(.slice B2 m2 d2),L,x2.map TObject.D⟩,⟨43,6,(.slice B3 m3 d3),[],x3.map TValue.D⟩,⟨9,1,(.slice B6 m6 d6),[],x6.map (fun x=>[Dat.str x])⟩,⟨9,1,(.slice B7 m7 d7),[],x7.map (fun x=>[Dat.str x])⟩,⟨96,2,(.slice B8 m8 d8),[],x8.map TActive.D⟩]from by rw[←hwq10];exact T9.out.next HQ.out.1 HO9.out HQ.out.2 8 (TT9.out.cl.box.put8 _))
   clear hlq9 hfq9 kq9_0 kq9_1 kq9_2 kq9_3 kq9_4 kq9_5 kq9_6 kq9_7 kq9_8 kq9_9 kq9_10 kq9_11 kq9_12 hlb9 hfb9 kb9_0 kb9_1 kb9_2 kb9_3 kb9_4 kb9_5 kb9_6 kb9_7 kb9_8 kb9_9 kb9_10 kb9_11 kb9_12
   clear hwq10 HQ HO9 TT9 T9
   have HRB:=hide T10.out.rb
   obtain⟨hlq,hfq,kq_0,kq_1,kq_2,kq_3,kq_4,kq_5,kq_6,kq_7,kq_8,kq_9,kq_10,kq_11,kq_12⟩:=T10.out.sb
   obtain⟨hlb,hfb,kb_0,kb_1,kb_2,kb_3,kb_4,kb_5,kb_6,kb_7,kb_8,kb_9,kb_10,kb_11,kb_12⟩:=T10.out.cl.box
   refine wp_region_lit ?_
   refine wpList_plain rfl fun K hK=>?_
   go_simp
   refine hK _ _ ?_
   refine wpList_store_mid rfl 40 (.tmp 2) (.tmp 61) rfl (w.heap.size+1) 0 #[.slice B0 m0 d0,.slice B1 m1 d1,.slice B2 m2 d2,.slice B3 m3 d3,.string x4,.int .i64 x5,.slice B6 m6 d6,.slice B7 m7 d7,.slice B8 m8 d8,.bool x9,.int .i64 x10,.int .i64 x11,.int .i64 x12] rfl rfl HRB.out.there (by kernel_rfl) (by simp[Value.oneCell']) ?_
   refine wpList_namedF fun wz hwz=>?_
   replace hwz:wz=(((((((((((((wq10.setCell ⟨w.heap.size+1,0,none⟩ (.slice B0 m0 d0)).setCell ⟨w.heap.size+1,1,none⟩ (.slice B1 m1 d1)).setCell ⟨w.heap.size+1,2,none⟩ (.slice B2 m2 d2)).setCell ⟨w.heap.size+1,3,none⟩ (.slice B3 m3 d3)).setCell ⟨w.heap.size+1,4,none⟩ (.string x4)).setCell ⟨w.heap.size+1,5,none⟩ (.int .i64 x5)).setCell ⟨w.heap.size+1,6,none⟩ (.slice B6 m6 d6)).setCell ⟨w.heap.size+1,7,none⟩ (.slice B7 m7 d7)).setCell ⟨w.heap.size+1,8,none⟩ (.slice B8 m8 d8)).setCell ⟨w.heap.size+1,9,none⟩ (.bool x9)).setCell ⟨w.heap.size+1,10,none⟩ (.int .i64 x10)).setCell ⟨w.heap.size+1,11,none⟩ (.int .i64 x11)).setCell ⟨w.heap.size+1,12,none⟩ (.int .i64 x12)):=hwz
   have hsame:∀y,(w.heap.size+1)≠y→wz.heap[y]?=wq10.heap[y]?:=fun y hy=>by rw[hwz,set_block 12 _ hy,set_block 11 _ hy,set_block 10 _ hy,set_block 9 _ hy,set_block 8 _ hy,set_block 7 _ hy,set_block 6 _ hy,set_block 5 _ hy,set_block 4 _ hy,set_block 3 _ hy,set_block 2 _ hy,set_block 1 _ hy,set_block 0 _ hy]
   have hsz:wz.heap.size=wq10.heap.size:=by rw[hwz];simp
   have PZ:SB wz (w.heap.size+1) (.slice B0 m0 d0) (.slice B1 m1 d1) (.slice B2 m2 d2) (.slice B3 m3 d3) (.string x4) (.int .i64 x5) (.slice B6 m6 d6) (.slice B7 m7 d7) (.slice B8 m8 d8) (.bool x9) (.int .i64 x10) (.int .i64 x11) (.int .i64 x12):=by rw[hwz];exact ((((((((((((HRB.out.put0 _).put1 _).put2 _).put3 _).put4 _).put5 _).put6 _).put7 _).put8 _).put9 _).put10 _).put11 _).put12 _
   have hbz:Bel w wz:=by rw[hwz];exact (Below.setCell (Below.setCell (Below.setCell (Below.setCell (Below.setCell (Below.setCell (Below.setCell (Below.setCell (Below.setCell (Below.setCell (Below.setCell (Below.setCell (Below.setCell T10.out.cl.bel (show w.heap.size≤w.heap.size+1 by omega) _) (show w.heap.size≤w.heap.size+1 by omega) _) (show w.heap.size≤w.heap.size+1 by omega) _) (show w.heap.size≤w.heap.size+1 by omega) _) (show w.heap.size≤w.heap.size+1 by omega) _) (show w.heap.size≤w.heap.size+1 by omega) _) (show w.heap.size≤w.heap.size+1 by omega) _) (show w.heap.size≤w.heap.size+1 by omega) _) (show w.heap.size≤w.heap.size+1 by omega) _) (show w.heap.size≤w.heap.size+1 by omega) _) (show w.heap.size≤w.heap.size+1 by omega) _) (show w.heap.size≤w.heap.size+1 by omega) _) (show w.heap.size≤w.heap.size+1 by omega) _)
   have hez:Ents w.heap.size wz [⟨9,1,(.slice B0 m0 d0),[],x0.map (fun x=>[Dat.str x])⟩,⟨92,3,(.slice B1 m1 d1),L1,x1.map TRecordType.D⟩,⟨89,5,(.slice B2 m2 d2),L,x2.map TObject.D⟩,⟨43,6,(.slice B3 m3 d3),[],x3.map TValue.D⟩,⟨9,1,(.slice B6 m6 d6),[],x6.map (fun x=>[Dat.str x])⟩,⟨9,1,(.slice B7 m7 d7),[],x7.map (fun x=>[Dat.str x])⟩,⟨96,2,(.slice B8 m8 d8),[],x8.map TActive.D⟩]:=(T10.out.cl.ents.keep (by omega) (fun e he x hx=>hsame x (by have:=T10.out.cl.ents.low e he x hx;omega))).weak (by omega)
   clear hlq hfq kq_0 kq_1 kq_2 kq_3 kq_4 kq_5 kq_6 kq_7 kq_8 kq_9 kq_10 kq_11 kq_12 hlb hfb kb_0 kb_1 kb_2 kb_3 kb_4 kb_5 kb_6 kb_7 kb_8 kb_9 kb_10 kb_11 kb_12
   obtain⟨-,-,e0,e1,e2,e3,e4,e5,e6,e7,e8,e9,e10,e11,e12⟩:=PZ
   clear hwz HRB hsame hsz
   refine wpList_nil ?_
   go_simp
   rename_i hKr
   refine hKr _ _ ?_
   clear hKr hK
   refine wp_ret ?_
   exact bodyPost_ret (v:=.agg #[.slice B0 m0 d0,.slice B1 m1 d1,.slice B2 m2 d2,.slice B3 m3 d3,.string x4,.int .i64 x5,.slice B6 m6 d6,.slice B7 m7 d7,.slice B8 m8 d8,.bool x9,.int .i64 x10,.int .i64 x11,.int .i64 x12]) (by simp[results,Tryz.results31,e0,e1,e2,e3,e4,e5,e6,e7,e8,e9,e10,e11,e12,go_sem];try rfl) rfl ⟨_,_,_,_,_,_,_,_,_,_,_,_,_,_,rfl,hez,hbz⟩
end Go.Proofs.YtppmgodahloogaaGreatDoor
