/- The program copies a store. -/
import Derived.Test.YtoikhhnmbbbjjaaDoorPr
import Derived.Test.YtoikhhnmbbbjjaaDoorPK0
import Derived.Test.YtoikhhnmbbbjjaaDoorPMStringS
import Derived.Test.YtoikhhnmbbbjjaaDoorPKe
import Derived.Test.YtoikhhnmbbbjjaaDoorPK1
import Derived.Test.YtoikhhnmbbbjjaaDoorPS3z
namespace Go.Proofs.YtoikhhnmbbbjjaaDoor
set_option linter.unusedVariables false
set_option linter.unusedSimpArgs false
set_option maxRecDepth 100000
open Go.RowKit
set_option maxHeartbeats 8000000 in
theorem implClone_any:CloneC 13:=by
 intro x0 x1 x2 x3 x4 x5 x6 x7 x8 x9 x10 x11 x12 S w vs hv hwt
 obtain⟨A0,c0,A1,c1,A2,c2,A3,c3,A6,c6,A7,c7,A8,c8,rfl,g0,g1,g2,g3,g4,g5,g6,g7,g8,-,g10,g11,g12⟩:=TStore.vals hv
 have HR0:=hide g0
 have hl0:=g0.1
 have hm0:=g0.2.1
 simp only[List.length_map]at hl0
 unfold maxLen at hm0
 have HR1:=hide g1
 have hl1:=g1.1
 have hm1:=g1.2.1
 simp only[List.length_map]at hl1
 unfold maxLen at hm1
 have HR2:=hide g2
 have hl2:=g2.1
 have hm2:=g2.2.1
 simp only[List.length_map]at hl2
 unfold maxLen at hm2
 have HR3:=hide g3
 have hl3:=g3.1
 have hm3:=g3.2.1
 simp only[List.length_map]at hl3
 unfold maxLen at hm3
 have HR6:=hide g6
 have hl6:=g6.1
 have hm6:=g6.2.1
 simp only[List.length_map]at hl6
 unfold maxLen at hm6
 have HR7:=hide g7
 have hl7:=g7.1
 have hm7:=g7.2.1
 simp only[List.length_map]at hl7
 unfold maxLen at hm7
 have HR8:=hide g8
 have hl8:=g8.1
 have hm8:=g8.2.1
 simp only[List.length_map]at hl8
 unfold maxLen at hm8
 rw[TStore.D_mk]at hwt
 simp only[Dat.lnL,Dat.ln,List.length_map]at hwt
 have hx0:x0.length≤1048576:=by omega
 have hx1:x1.length≤1048576:=by omega
 have hx2:x2.length≤1048576:=by omega
 have hx3:x3.length≤1048576:=by omega
 have hx6:x6.length≤1048576:=by omega
 have hx7:x7.length≤1048576:=by omega
 have hx8:x8.length≤1048576:=by omega
 have HFR:=hide (show ∀(k:Nat) (h:k<x1.length),x1[k].fl.length≤1048576 from fun k h=>by have:=wt_recs x1 k h;omega)
 have HFO:=hide (show ∀(k:Nat) (h:k<x2.length),x2[k].its.length+x2[k].kys.length≤1048576 from fun k h=>by have:=wt_objs x2 k h;omega)
 clear hwt hv g0 g1 g2 g3 g6 g7 g8
 obtain⟨is,his,zs0,zs1,zs2⟩:=info_parts infoStr
 obtain⟨iv,hiv,zv0,zv1,zv2⟩:=info_parts infoVal
 obtain⟨ia,hia,za0,za1,za2⟩:=info_parts infoAct
 obtain⟨io,hio,zo0,zo1,zo2⟩:=info_parts infoObj
 go_enter Tryd.func13,Tryd.ntmps13
 go_upto_region 2 with (fail)
 refine wp_named2 fun w2 hw2=>?_
 replace hw2:((w.alloc (.cells #[.slice A0 x0.length c0,.slice A1 x1.length c1,.slice A2 x2.length c2,.slice A3 x3.length c3,.string x4,.int .i64 x5,.slice A6 x6.length c6,.slice A7 x7.length c7,.slice A8 x8.length c8,.bool x9,.int .i64 x10,.int .i64 x11,.int .i64 x12] 30)).alloc (.cells #[.slice none 0 0,.slice none 0 0,.slice none 0 0,.slice none 0 0,.string ByteArray.empty,.int .i64 0,.slice none 0 0,.slice none 0 0,.slice none 0 0,.bool false,.int .i64 0,.int .i64 0,.int .i64 0] 30)).alloc (.cells #[.slice A0 x0.length c0,.slice A1 x1.length c1,.slice A2 x2.length c2,.slice A3 x3.length c3,.string x4,.int .i64 x5,.slice A6 x6.length c6,.slice A7 x7.length c7,.slice A8 x8.length c8,.bool x9,.int .i64 x10,.int .i64 x11,.int .i64 x12] 30)=w2:=hw2
 have hb2:Bel w w2:=by rw[←hw2];exact bl
 have hz2:w2.heap.size=w.heap.size+3:=by rw[←hw2];simp
 have SQ:SB w2 w.heap.size (.slice A0 x0.length c0) (.slice A1 x1.length c1) (.slice A2 x2.length c2) (.slice A3 x3.length c3) (.string x4) (.int .i64 x5) (.slice A6 x6.length c6) (.slice A7 x7.length c7) (.slice A8 x8.length c8) (.bool x9) (.int .i64 x10) (.int .i64 x11) (.int .i64 x12):=by rw[←hw2];first | exact (SB.new w 30).on bl | trace_state
 have SR:SB w2 (w.heap.size+1) (.slice none 0 0) (.slice none 0 0) (.slice none 0 0) (.slice none 0 0) (.string ByteArray.empty) (.int .i64 0) (.slice none 0 0) (.slice none 0 0) (.slice none 0 0) (.bool false) (.int .i64 0) (.int .i64 0) (.int .i64 0):=by rw[←hw2];first | (have h:=(SB.new (w.alloc (.cells #[.slice A0 x0.length c0,.slice A1 x1.length c1,.slice A2 x2.length c2,.slice A3 x3.length c3,.string x4,.int .i64 x5,.slice A6 x6.length c6,.slice A7 x7.length c7,.slice A8 x8.length c8,.bool x9,.int .i64 x10,.int .i64 x11,.int .i64 x12] 30)) 30 (v0:=.slice none 0 0) (v1:=.slice none 0 0) (v2:=.slice none 0 0) (v3:=.slice none 0 0) (v4:=.string ByteArray.empty) (v5:=.int .i64 0) (v6:=.slice none 0 0) (v7:=.slice none 0 0) (v8:=.slice none 0 0) (v9:=.bool false) (v10:=.int .i64 0) (v11:=.int .i64 0) (v12:=.int .i64 0));rw[World.size_alloc]at h;exact h.on bl) | trace_state
 have SBB:SB w2 (w.heap.size+2) (.slice A0 x0.length c0) (.slice A1 x1.length c1) (.slice A2 x2.length c2) (.slice A3 x3.length c3) (.string x4) (.int .i64 x5) (.slice A6 x6.length c6) (.slice A7 x7.length c7) (.slice A8 x8.length c8) (.bool x9) (.int .i64 x10) (.int .i64 x11) (.int .i64 x12):=by rw[←hw2];first | (have h:=SB.new ((w.alloc (.cells #[.slice A0 x0.length c0,.slice A1 x1.length c1,.slice A2 x2.length c2,.slice A3 x3.length c3,.string x4,.int .i64 x5,.slice A6 x6.length c6,.slice A7 x7.length c7,.slice A8 x8.length c8,.bool x9,.int .i64 x10,.int .i64 x11,.int .i64 x12] 30)).alloc (.cells #[.slice none 0 0,.slice none 0 0,.slice none 0 0,.slice none 0 0,.string ByteArray.empty,.int .i64 0,.slice none 0 0,.slice none 0 0,.slice none 0 0,.bool false,.int .i64 0,.int .i64 0,.int .i64 0] 30)) 30 (v0:=.slice A0 x0.length c0) (v1:=.slice A1 x1.length c1) (v2:=.slice A2 x2.length c2) (v3:=.slice A3 x3.length c3) (v4:=.string x4) (v5:=.int .i64 x5) (v6:=.slice A6 x6.length c6) (v7:=.slice A7 x7.length c7) (v8:=.slice A8 x8.length c8) (v9:=.bool x9) (v10:=.int .i64 x10) (v11:=.int .i64 x11) (v12:=.int .i64 x12);simp only[World.size_alloc]at h;exact h) | trace_state
 have T2:=hide (show ClF w (w.heap.size+3) w2 (w.heap.size+2) w.heap.size (w.heap.size+1) (.slice A0 x0.length c0) (.slice A1 x1.length c1) (.slice A2 x2.length c2) (.slice A3 x3.length c3) (.string x4) (.int .i64 x5) (.slice A6 x6.length c6) (.slice A7 x7.length c7) (.slice A8 x8.length c8) (.bool x9) (.int .i64 x10) (.int .i64 x11) (.int .i64 x12) (.slice A0 x0.length c0) (.slice A1 x1.length c1) (.slice A2 x2.length c2) (.slice A3 x3.length c3) (.string x4) (.int .i64 x5) (.slice A6 x6.length c6) (.slice A7 x7.length c7) (.slice A8 x8.length c8) (.bool x9) (.int .i64 x10) (.int .i64 x11) (.int .i64 x12) []from⟨⟨SBB,Ents.nil _ _,hb2,by omega,by omega,by omega⟩,SQ,SR,by omega,by omega,by omega,by omega,by omega⟩)
 clear hw2 hb2 hz2 SQ SR SBB
 obtain⟨hlq,hfq,kq_0,kq_1,kq_2,kq_3,kq_4,kq_5,kq_6,kq_7,kq_8,kq_9,kq_10,kq_11,kq_12⟩:=T2.out.sb
 obtain⟨hlb,hfb,kb_0,kb_1,kb_2,kb_3,kb_4,kb_5,kb_6,kb_7,kb_8,kb_9,kb_10,kb_11,kb_12⟩:=T2.out.cl.box
 have HO5:=hide (OwnD.lit0 w2 9 1)
 obtain⟨nw,hsr⟩:=Row.src (strs_flat x0) (Row.bel (Bel.trans T2.out.cl.bel (show Bel w2 (w2.alloc (.cells #[] 9))from bl)) HR0.out)
 rw[List.length_map]at hsr
 have HSR:=hide hsr
 clear hsr
 go_wp2_with (at_builtin;refine wpList_append_D rfl (.tmp 7) (.tmp 9) 24 rfl 9 is (.string ByteArray.empty) 1 16 Tryd.underlying24 his zs0 zs1 zs2 (by decide) (by decide) HO5.out HSR.out c0 rfl rfl (fun b _ h=>by cases h) (by simp only[List.length_nil];omega) (by simp only[List.length_nil];unfold maxLen;omega) ?_)
 intro v9 w9 hO9 hg9 hw9
 have HQ:=hide (copy_bel hg9 hw9)
 have HO9:=hide (show OwnD w9 9 1 v9 [] (x0.map (fun x=>[Dat.str x]))from hO9)
 clear hO9 hg9 hw9 HO5 HSR
 clear hlq hfq kq_0 kq_1 kq_2 kq_3 kq_4 kq_5 kq_6 kq_7 kq_8 kq_9 kq_10 kq_11 kq_12 hlb hfb kb_0 kb_1 kb_2 kb_3 kb_4 kb_5 kb_6 kb_7 kb_8 kb_9 kb_10 kb_11 kb_12
 obtain⟨B0,m0,d0,rfl⟩:∃A9 n9 c9,v9=.slice A9 n9 c9:=by obtain⟨A9,c9,L9,hv9,-⟩:=HO9.out.ownRow;exact⟨_,_,_,hv9⟩
 have TT9:=hide (T2.out.on HQ.out.1)
 obtain⟨hlq9,hfq9,kq9_0,kq9_1,kq9_2,kq9_3,kq9_4,kq9_5,kq9_6,kq9_7,kq9_8,kq9_9,kq9_10,kq9_11,kq9_12⟩:=TT9.out.sb
 obtain⟨hlb9,hfb9,kb9_0,kb9_1,kb9_2,kb9_3,kb9_4,kb9_5,kb9_6,kb9_7,kb9_8,kb9_9,kb9_10,kb9_11,kb9_12⟩:=TT9.out.cl.box
 go_upto_region 3 with (fail)
 refine wp_named2 fun wq3 hwq3=>?_
 have T3:=hide (show ClF w (w.heap.size+3) wq3 (w.heap.size+2) w.heap.size (w.heap.size+1) (.slice B0 m0 d0) (.slice A1 x1.length c1) (.slice A2 x2.length c2) (.slice A3 x3.length c3) (.string x4) (.int .i64 x5) (.slice A6 x6.length c6) (.slice A7 x7.length c7) (.slice A8 x8.length c8) (.bool x9) (.int .i64 x10) (.int .i64 x11) (.int .i64 x12) (.slice A0 x0.length c0) (.slice A1 x1.length c1) (.slice A2 x2.length c2) (.slice A3 x3.length c3) (.string x4) (.int .i64 x5) (.slice A6 x6.length c6) (.slice A7 x7.length c7) (.slice A8 x8.length c8) (.bool x9) (.int .i64 x10) (.int .i64 x11) (.int .i64 x12) [⟨9,1,(.slice B0 m0 d0),[],x0.map (fun x=>[Dat.str x])⟩]from by rw[←hwq3];exact T2.out.next HQ.out.1 HO9.out HQ.out.2 0 (TT9.out.cl.box.put0 _))
 clear hlq9 hfq9 kq9_0 kq9_1 kq9_2 kq9_3 kq9_4 kq9_5 kq9_6 kq9_7 kq9_8 kq9_9 kq9_10 kq9_11 kq9_12 hlb9 hfb9 kb9_0 kb9_1 kb9_2 kb9_3 kb9_4 kb9_5 kb9_6 kb9_7 kb9_8 kb9_9 kb9_10 kb9_11 kb9_12
 clear hwq3 HQ HO9 TT9 T2
 obtain⟨hlq,hfq,kq_0,kq_1,kq_2,kq_3,kq_4,kq_5,kq_6,kq_7,kq_8,kq_9,kq_10,kq_11,kq_12⟩:=T3.out.sb
 obtain⟨hlb,hfb,kb_0,kb_1,kb_2,kb_3,kb_4,kb_5,kb_6,kb_7,kb_8,kb_9,kb_10,kb_11,kb_12⟩:=T3.out.cl.box
 go_upto_region 4 with (go_at_call 31;refine (implRecs_any x1 S _ _ _ (Row.bel T3.out.cl.bel HR1.out) hx1 HFR.out).mono ?_;rintro e w9 ⟨v9,L1,rfl,hO9,hn9,hb9⟩;have HO9:=hide hO9;have HN9:=hide hn9;have HB9:=hide hb9;clear hO9 hn9 hb9;obtain⟨B1,m1,d1,rfl⟩:∃A9 n9 c9,v9=.slice A9 n9 c9:=(by obtain⟨A9,c9,L9,hv9,-⟩:=HO9.out.ownRow;exact⟨_,_,_,hv9⟩);have TT9:=hide (T3.out.on HB9.out);obtain⟨hlb9,hfb9,kb9_0,kb9_1,kb9_2,kb9_3,kb9_4,kb9_5,kb9_6,kb9_7,kb9_8,kb9_9,kb9_10,kb9_11,kb9_12⟩:=TT9.out.cl.box)
 clear hlq hfq kq_0 kq_1 kq_2 kq_3 kq_4 kq_5 kq_6 kq_7 kq_8 kq_9 kq_10 kq_11 kq_12 hlb hfb kb_0 kb_1 kb_2 kb_3 kb_4 kb_5 kb_6 kb_7 kb_8 kb_9 kb_10 kb_11 kb_12
 refine wp_named2 fun wq4 hwq4=>?_
 have T4:=hide (show ClF w (w.heap.size+3) wq4 (w.heap.size+2) w.heap.size (w.heap.size+1) (.slice B0 m0 d0) (.slice B1 m1 d1) (.slice A2 x2.length c2) (.slice A3 x3.length c3) (.string x4) (.int .i64 x5) (.slice A6 x6.length c6) (.slice A7 x7.length c7) (.slice A8 x8.length c8) (.bool x9) (.int .i64 x10) (.int .i64 x11) (.int .i64 x12) (.slice A0 x0.length c0) (.slice A1 x1.length c1) (.slice A2 x2.length c2) (.slice A3 x3.length c3) (.string x4) (.int .i64 x5) (.slice A6 x6.length c6) (.slice A7 x7.length c7) (.slice A8 x8.length c8) (.bool x9) (.int .i64 x10) (.int .i64 x11) (.int .i64 x12) [⟨9,1,(.slice B0 m0 d0),[],x0.map (fun x=>[Dat.str x])⟩,⟨71,3,(.slice B1 m1 d1),L1,x1.map TRecordType.D⟩]from by rw[←hwq4];exact T3.out.next HB9.out HO9.out HN9.out 1 (TT9.out.cl.box.put1 _))
 clear hwq4 HB9 HO9 HN9 TT9 T3 hlb9 hfb9 kb9_0 kb9_1 kb9_2 kb9_3 kb9_4 kb9_5 kb9_6 kb9_7 kb9_8 kb9_9 kb9_10 kb9_11 kb9_12
 obtain⟨hlq,hfq,kq_0,kq_1,kq_2,kq_3,kq_4,kq_5,kq_6,kq_7,kq_8,kq_9,kq_10,kq_11,kq_12⟩:=T4.out.sb
 obtain⟨hlb,hfb,kb_0,kb_1,kb_2,kb_3,kb_4,kb_5,kb_6,kb_7,kb_8,kb_9,kb_10,kb_11,kb_12⟩:=T4.out.cl.box
 go_upto_region 5 with (fail)
 clear hlq hfq kq_0 kq_1 kq_2 kq_3 kq_4 kq_5 kq_6 kq_7 kq_8 kq_9 kq_10 kq_11 kq_12 hlb hfb kb_0 kb_1 kb_2 kb_3 kb_4 kb_5 kb_6 kb_7 kb_8 kb_9 kb_10 kb_11 kb_12
 refine wp_named2 fun wq5 hwq5=>?_
 have T5:=hide (show ClF w (w.heap.size+3) wq5 (w.heap.size+2) w.heap.size (w.heap.size+1) (.slice B0 m0 d0) (.slice B1 m1 d1) (.slice none 0 0) (.slice A3 x3.length c3) (.string x4) (.int .i64 x5) (.slice A6 x6.length c6) (.slice A7 x7.length c7) (.slice A8 x8.length c8) (.bool x9) (.int .i64 x10) (.int .i64 x11) (.int .i64 x12) (.slice A0 x0.length c0) (.slice A1 x1.length c1) (.slice A2 x2.length c2) (.slice A3 x3.length c3) (.string x4) (.int .i64 x5) (.slice A6 x6.length c6) (.slice A7 x7.length c7) (.slice A8 x8.length c8) (.bool x9) (.int .i64 x10) (.int .i64 x11) (.int .i64 x12) [⟨9,1,(.slice B0 m0 d0),[],x0.map (fun x=>[Dat.str x])⟩,⟨71,3,(.slice B1 m1 d1),L1,x1.map TRecordType.D⟩,⟨42,5,(.slice none 0 0),[],[]⟩]from by rw[←hwq5];exact T4.out.next (Bel.refl _) (OwnD.nil _ _ _) (fun x hx=>(OwnD.blk_nil hx).elim) 2 (T4.out.cl.box.put2 _))
 clear hwq5 T4
 obtain⟨hlq,hfq,kq_0,kq_1,kq_2,kq_3,kq_4,kq_5,kq_6,kq_7,kq_8,kq_9,kq_10,kq_11,kq_12⟩:=T5.out.sb
 obtain⟨hlb,hfb,kb_0,kb_1,kb_2,kb_3,kb_4,kb_5,kb_6,kb_7,kb_8,kb_9,kb_10,kb_11,kb_12⟩:=T5.out.cl.box
 go_wp2_with (fail)
 clear hlq hfq kq_0 kq_1 kq_2 kq_3 kq_4 kq_5 kq_6 kq_7 kq_8 kq_9 kq_10 kq_11 kq_12 hlb hfb kb_0 kb_1 kb_2 kb_3 kb_4 kb_5 kb_6 kb_7 kb_8 kb_9 kb_10 kb_11 kb_12
 go_loopw [20] (fun iv wr=>∃(i:Nat) (v:Value) (L:List Nat),iv=.int .i64 i∧i≤x2.length∧Hid (ClF w (w.heap.size+3) wr (w.heap.size+2) w.heap.size (w.heap.size+1) (.slice B0 m0 d0) (.slice B1 m1 d1) v (.slice A3 x3.length c3) (.string x4) (.int .i64 x5) (.slice A6 x6.length c6) (.slice A7 x7.length c7) (.slice A8 x8.length c8) (.bool x9) (.int .i64 x10) (.int .i64 x11) (.int .i64 x12) (.slice A0 x0.length c0) (.slice A1 x1.length c1) (.slice A2 x2.length c2) (.slice A3 x3.length c3) (.string x4) (.int .i64 x5) (.slice A6 x6.length c6) (.slice A7 x7.length c7) (.slice A8 x8.length c8) (.bool x9) (.int .i64 x10) (.int .i64 x11) (.int .i64 x12) [⟨9,1,(.slice B0 m0 d0),[],x0.map (fun x=>[Dat.str x])⟩,⟨71,3,(.slice B1 m1 d1),L1,x1.map TRecordType.D⟩,⟨42,5,v,L,(x2.take i).map TObject.D⟩])) (fun iv _=>x2.length - (intOf iv).toNat)
 case atStart=>exact⟨0,_,[],rfl,Nat.zero_le _,hide (by have h:=T5.out;simpa only[List.take_zero,List.map_nil]using h)⟩
 case round =>
  obtain⟨i,v,L,rfl,hi,HT⟩:=hrel
  clear T5
  by_cases h:i<x2.length
  ·
   skip
   have hdc:decide ((i:Int)<(x2.length:Int))=true:=by simp;omega
   have hdn:decide (i<x2.length)=true:=by simp[h]
   have hbw:=HT.out.cl.bel
   have hi0:(0:Int)≤(i:Int):=by omega
   have hi1:(i:Int)<(x2.length:Int):=by omega
   (obtain⟨b1,o1,x1_0,x1_1,x1_2,x1_3,x1_4,A1_3,C1_3,A1_4,C1_4,hA1,hS1,hl1,hx1,hv1,g1_0,g1_1,g1_2,g1_3,g1_4,c1_0,c1_1,c1_2,c1_3,c1_4⟩:=TObject.at HR2.out i h;subst hA1;have HV1:=hide (Dat.HoldVals.bel hbw hv1);have hh1:=hbw.box b1 hl1;have hw1:=Nat.lt_of_lt_of_le hl1 (Bel.size hbw);replace c1_0:=(hh1 _).trans c1_0;replace c1_1:=(hh1 _).trans c1_1;replace c1_2:=(hh1 _).trans c1_2;replace c1_3:=(hh1 _).trans c1_3;replace c1_4:=(hh1 _).trans c1_4;have HX1:=hide hx1;have GR1_3:=hide g1_3;have GR1_4:=hide g1_4;clear hh1 hv1 hx1 hS1 g1_3 g1_4)
   have hfo:=HFO.out i h
   rw[HX1.out]at hfo
   simp only[TObject.its,TObject.kys]at hfo
   have hlf3:=GR1_3.out.1
   have hmf3:=GR1_3.out.2.1
   simp only[List.length_map]at hlf3
   unfold maxLen at hmf3
   have hlf4:=GR1_4.out.1
   have hmf4:=GR1_4.out.2.1
   simp only[List.length_map]at hlf4
   unfold maxLen at hmf4
   go_upto_region 8 with (fail)
   refine wp_named2 fun wA hwA=>?_
   have hbA:Bel wr wA:=by rw[←hwA];exact bl
   have OA:=hide (show OB wA wr.heap.size (.int .i64 x1_0) (.int .i64 x1_1) (.int .i64 x1_2) (.slice A1_3 x1_3.length C1_3) (.slice A1_4 x1_4.length C1_4)from by rw[←hwA];first | exact OB.new _ _ | exact (((((OB.new _ _).put0 _).put1 _).put2 _).put3 _).put4 _)
   have hzA:wr.heap.size<wA.heap.size:=OA.out.1
   clear hwA
   obtain⟨hlo,hfo3,q0,q1,q2,q3,q4⟩:=OA.out
   have HO5:=hide (OwnD.lit0 wA 34 6)
   obtain⟨nw,hsr⟩:=Row.src (val_flat x1_3) (Row.bel (Bel.trans hbw (Bel.trans hbA (show Bel wA (wA.alloc (.cells #[] 34))from bl))) GR1_3.out)
   rw[List.length_map]at hsr
   have HSR:=hide hsr
   clear hsr
   go_wp2_with (at_builtin;refine wpList_append_D rfl (.tmp 24) (.tmp 26) 27 rfl 34 iv (.agg #[.int .i64 0,.int .i64 0,.int .i64 0,.string ByteArray.empty,.int .i64 0,.int .i64 0]) 6 56 Tryd.underlying27 hiv zv0 zv1 zv2 (by decide) (by decide) HO5.out HSR.out C1_3 rfl rfl (fun b _ h=>by cases h) (by simp only[List.length_nil];omega) (by simp only[List.length_nil];unfold maxLen;omega) ?_)
   intro vI wI hO9 hg9 hw9
   have HQI:=hide (copy_bel hg9 hw9)
   have HOI:=hide (show OwnD wI 34 6 vI [] (x1_3.map TValue.D)from hO9)
   clear hO9 hg9 hw9 HO5 HSR hlo hfo3 q0 q1 q2 q3 q4
   obtain⟨AI,nI,dI,rfl⟩:∃A9 n9 c9,vI=.slice A9 n9 c9:=by obtain⟨A9,c9,L9,hv9,-⟩:=HOI.out.ownRow;exact⟨_,_,_,hv9⟩
   have OB9:=hide (OA.out.on HQI.out.1)
   obtain⟨hlo,hfo3,q0,q1,q2,q3,q4⟩:=OB9.out
   go_upto_region 9 with (fail)
   refine wp_named2 fun yI hyI=>?_
   have OI:=hide (show OB yI wr.heap.size (.int .i64 x1_0) (.int .i64 x1_1) (.int .i64 x1_2) (.slice AI nI dI) (.slice A1_4 x1_4.length C1_4)from by rw[←hyI];exact OB9.out.put3 _)
   have hbI:Bel wr yI:=by rw[←hyI];exact Below.setCell (Bel.trans hbA HQI.out.1) (Nat.le_refl _) _
   have HPI:=hide (show OwnD yI 34 6 (.slice AI nI dI) [] (x1_3.map TValue.D)from by rw[←hyI];exact HOI.out.keep (by simp) (fun x hx=>set_block 3 _ (fun e=>by have:=HQI.out.2 x hx;omega)))
   have hzI:wI.heap.size≤yI.heap.size:=by rw[←hyI];simp
   have hsI:=HQI.out.1.size
   clear hyI OB9 hlo hfo3 q0 q1 q2 q3 q4 HOI
   obtain⟨hlo,hfo4,q0,q1,q2,q3,q4⟩:=OI.out
   have HO5:=hide (OwnD.lit0 yI 34 6)
   obtain⟨nw,hsr⟩:=Row.src (val_flat x1_4) (Row.bel (Bel.trans hbw (Bel.trans hbI (show Bel yI (yI.alloc (.cells #[] 34))from bl))) GR1_4.out)
   rw[List.length_map]at hsr
   have HSR:=hide hsr
   clear hsr
   go_wp2_with (at_builtin;refine wpList_append_D rfl (.tmp 29) (.tmp 31) 27 rfl 34 iv (.agg #[.int .i64 0,.int .i64 0,.int .i64 0,.string ByteArray.empty,.int .i64 0,.int .i64 0]) 6 56 Tryd.underlying27 hiv zv0 zv1 zv2 (by decide) (by decide) HO5.out HSR.out C1_4 rfl rfl (fun b _ h=>by cases h) (by simp only[List.length_nil];omega) (by simp only[List.length_nil];unfold maxLen;omega) ?_)
   intro vJ wJ hO9 hg9 hw9
   have HQJ:=hide (copy_bel hg9 hw9)
   have HOJ:=hide (show OwnD wJ 34 6 vJ [] (x1_4.map TValue.D)from hO9)
   clear hO9 hg9 hw9 HO5 HSR hlo hfo4 q0 q1 q2 q3 q4
   obtain⟨AJ,nJ,dJ,rfl⟩:∃A9 n9 c9,vJ=.slice A9 n9 c9:=by obtain⟨A9,c9,L9,hv9,-⟩:=HOJ.out.ownRow;exact⟨_,_,_,hv9⟩
   have OB9:=hide (OI.out.on HQJ.out.1)
   obtain⟨hlo,hfo4,q0,q1,q2,q3,q4⟩:=OB9.out
   go_upto_region 10 with (fail)
   refine wp_named2 fun yJ hyJ=>?_
   have OJ:=hide (show OB yJ wr.heap.size (.int .i64 x1_0) (.int .i64 x1_1) (.int .i64 x1_2) (.slice AI nI dI) (.slice AJ nJ dJ)from by rw[←hyJ];exact OB9.out.put4 _)
   have hbJ:Bel wr yJ:=by rw[←hyJ];exact Below.setCell (Bel.trans hbI HQJ.out.1) (Nat.le_refl _) _
   have HPJ:=hide (show OwnD yJ 34 6 (.slice AJ nJ dJ) [] (x1_4.map TValue.D)from by rw[←hyJ];exact HOJ.out.keep (by simp) (fun x hx=>set_block 4 _ (fun e=>by have:=HQJ.out.2 x hx;omega)))
   have HPI2:=hide (show OwnD yJ 34 6 (.slice AI nI dI) [] (x1_3.map TValue.D)from by rw[←hyJ];exact (HPI.out.bel HQJ.out.1).keep (by simp) (fun x hx=>set_block 4 _ (fun e=>by have:=HQI.out.2 x hx;omega)))
   have hzJ:wJ.heap.size≤yJ.heap.size:=by rw[←hyJ];simp
   have hsJ:=HQJ.out.1.size
   clear hyJ OB9 hlo hfo4 q0 q1 q2 q3 q4 HOJ
   obtain⟨AI2,cI2,LI,eI,rI,nI2,mI⟩:=HPI2.out.ownRow
   obtain⟨AJ2,cJ2,LJ,eJ,rJ,nJ2,mJ⟩:=HPJ.out.ownRow
   simp only[List.length_map]at eI eJ
   injection eI with eI1 eI2 eI3
   injection eJ with eJ1 eJ2 eJ3
   subst eI1 eI2 eI3 eJ1 eJ2 eJ3
   have HOVv:=hide (TObject.own_mk g1_0 g1_1 g1_2 rI rJ)
   have hltI:=HPI.out.lt
   have HND:=hide (show (LI++LJ).Nodup from nodup_app nI2 nJ2 (fun a ha hb=>by have h1:=hltI a (mI a ha);have h2:=HQJ.out.2 a (mJ a hb);omega))
   have HLM:=hide (show ∀a,a∈LI++LJ→wr.heap.size<a from fun a ha=>(List.mem_append.1 ha).elim (fun q=>by have:=HQI.out.2 a (mI a q);omega) (fun q=>by have:=HQJ.out.2 a (mJ a q);omega))
   clear rI rJ nI2 nJ2 mI mJ hltI
   obtain⟨hlo,hfo5,q0,q1,q2,q3,q4⟩:=OJ.out
   have TJ:=hide (HT.out.on hbJ)
   obtain⟨hlb9,hfb9,kb9_0,kb9_1,kb9_2,kb9_3,kb9_4,kb9_5,kb9_6,kb9_7,kb9_8,kb9_9,kb9_10,kb9_11,kb9_12⟩:=TJ.out.cl.box
   have HOO:=hide (show OwnD (yJ.alloc (.cells #[.int .i64 x1_0,.int .i64 x1_1,.int .i64 x1_2,.slice AI x1_3.length dI,.slice AJ x1_4.length dJ] 42)) 42 5 v L ((x2.take i).map TObject.D)from (TJ.out.cl.ents.own ⟨42,5,v,L,(x2.take i).map TObject.D⟩ (by simp)).bel bl)
   obtain⟨nw,hsr⟩:=(OwnD.lit1 (k:=5) yJ 42 HOVv.out rfl HND.out).src
   have HSR:=hide hsr
   clear hsr
   have HLV:=hide (HT.out.cl.ents.own ⟨42,5,v,L,(x2.take i).map TObject.D⟩ (by simp)).lt
   go_wp2_with (at_builtin;refine wpList_append_D rfl (.tmp 35) (.tmp 37) 26 rfl 42 io (.agg #[.int .i64 0,.int .i64 0,.int .i64 0,.slice none 0 0,.slice none 0 0]) 5 72 Tryd.underlying26 hio zo0 zo1 zo2 (by decide) (by decide) HOO.out HSR.out 1 rfl rfl (fun b hb hm=>by have h1:=HLV.out b hb;have h2:=HLM.out b hm;omega) (by rw[List.length_map,List.length_take];omega) (by rw[List.length_map,List.length_take];unfold maxLen;omega) ?_)
   intro v9 w9 hO9 hg9 hw9
   have hO9b:OwnD w9 42 5 v9 (L++(LI++LJ)) ((x2.take (i+1)).map TObject.D):=by rw[take_D TObject.D h,HX1.out];first | exact hO9 | (rw[List.map_take];exact hO9)
   obtain⟨A9,n9,c9,rfl⟩:∃A9 n9 c9,v9=.slice A9 n9 c9:=by obtain⟨A9,c9,L9,hv9,-⟩:=hO9.ownRow;exact⟨_,_,_,hv9⟩
   have HGR:=hide (ClF.grow (l:=[⟨9,1,(.slice B0 m0 d0),[],x0.map (fun x=>[Dat.str x])⟩,⟨71,3,(.slice B1 m1 d1),L1,x1.map TRecordType.D⟩]) (e:=⟨42,5,v,L,(x2.take i).map TObject.D⟩) (e':=⟨42,5,.slice A9 n9 c9,L++(LI++LJ),(x2.take (i+1)).map TObject.D⟩) HT.out (Bel.trans hbJ (show Bel yJ (yJ.alloc (.cells #[.int .i64 x1_0,.int .i64 x1_1,.int .i64 x1_2,.slice AI x1_3.length dI,.slice AJ x1_4.length dJ] 42))from bl)) hg9 hO9b (fun x hx=>by rcases hx with hx | hx;rcases hw9 x hx with e | e;exact Or.inl (Or.inl e);right;(try rw[World.size_alloc]at e);have:=hbJ.size;omega;rcases List.mem_append.1 hx with hx | hx;exact Or.inl (Or.inr hx);right;have:=HLM.out x hx;omega))
   obtain⟨GB,GN⟩:=HGR.out
   have HGN:=hide (GN 2 (.slice A9 n9 c9) (GB.put2 _))
   clear GN HGR hO9 hO9b hg9 hw9 hlo hfo5 q0 q1 q2 q3 q4 hlb9 hfb9 kb9_0 kb9_1 kb9_2 kb9_3 kb9_4 kb9_5 kb9_6 kb9_7 kb9_8 kb9_9 kb9_10 kb9_11 kb9_12
   obtain⟨hlb8,hfb8,kb8_0,kb8_1,kb8_2,kb8_3,kb8_4,kb8_5,kb8_6,kb8_7,kb8_8,kb8_9,kb8_10,kb8_11,kb8_12⟩:=GB
   exact rk207
  ·
   skip
   have hdc:decide ((i:Int)<(x2.length:Int))=false:=by simp;omega
   have hdn:decide (i<x2.length)=false:=by simp;omega
   obtain⟨B2,m2,d2,rfl⟩:∃A9 n9 c9,v=.slice A9 n9 c9:=by obtain⟨A9,c9,L9,hv9,-⟩:=(HT.out.cl.ents.own ⟨42,5,v,L,(x2.take i).map TObject.D⟩ (by simp)).ownRow;exact⟨_,_,_,hv9⟩
   have T6:=hide (show ClF w (w.heap.size+3) wr (w.heap.size+2) w.heap.size (w.heap.size+1) (.slice B0 m0 d0) (.slice B1 m1 d1) (.slice B2 m2 d2) (.slice A3 x3.length c3) (.string x4) (.int .i64 x5) (.slice A6 x6.length c6) (.slice A7 x7.length c7) (.slice A8 x8.length c8) (.bool x9) (.int .i64 x10) (.int .i64 x11) (.int .i64 x12) (.slice A0 x0.length c0) (.slice A1 x1.length c1) (.slice A2 x2.length c2) (.slice A3 x3.length c3) (.string x4) (.int .i64 x5) (.slice A6 x6.length c6) (.slice A7 x7.length c7) (.slice A8 x8.length c8) (.bool x9) (.int .i64 x10) (.int .i64 x11) (.int .i64 x12) [⟨9,1,(.slice B0 m0 d0),[],x0.map (fun x=>[Dat.str x])⟩,⟨71,3,(.slice B1 m1 d1),L1,x1.map TRecordType.D⟩,⟨42,5,(.slice B2 m2 d2),L,x2.map TObject.D⟩]from by have h:=HT.out;rw[List.take_of_length_le (show x2.length≤i by omega)]at h;exact h)
   clear HT
   go_upto_region 12 with (fail)
   obtain⟨hlq,hfq,kq_0,kq_1,kq_2,kq_3,kq_4,kq_5,kq_6,kq_7,kq_8,kq_9,kq_10,kq_11,kq_12⟩:=T6.out.sb
   obtain⟨hlb,hfb,kb_0,kb_1,kb_2,kb_3,kb_4,kb_5,kb_6,kb_7,kb_8,kb_9,kb_10,kb_11,kb_12⟩:=T6.out.cl.box
   have HO5:=hide (OwnD.lit0 wr 34 6)
   obtain⟨nw,hsr⟩:=Row.src (val_flat x3) (Row.bel (Bel.trans T6.out.cl.bel (show Bel wr (wr.alloc (.cells #[] 34))from bl)) HR3.out)
   rw[List.length_map]at hsr
   have HSR:=hide hsr
   clear hsr
   go_wp2_with (at_builtin;refine wpList_append_D rfl (.tmp 41) (.tmp 43) 27 rfl 34 iv (.agg #[.int .i64 0,.int .i64 0,.int .i64 0,.string ByteArray.empty,.int .i64 0,.int .i64 0]) 6 56 Tryd.underlying27 hiv zv0 zv1 zv2 (by decide) (by decide) HO5.out HSR.out c3 rfl rfl (fun b _ h=>by cases h) (by simp only[List.length_nil];omega) (by simp only[List.length_nil];unfold maxLen;omega) ?_)
   intro v9 w9 hO9 hg9 hw9
   have HQ:=hide (copy_bel hg9 hw9)
   have HO9:=hide (show OwnD w9 34 6 v9 [] (x3.map TValue.D)from hO9)
   clear hO9 hg9 hw9 HO5 HSR
   clear hlq hfq kq_0 kq_1 kq_2 kq_3 kq_4 kq_5 kq_6 kq_7 kq_8 kq_9 kq_10 kq_11 kq_12 hlb hfb kb_0 kb_1 kb_2 kb_3 kb_4 kb_5 kb_6 kb_7 kb_8 kb_9 kb_10 kb_11 kb_12
   obtain⟨B3,m3,d3,rfl⟩:∃A9 n9 c9,v9=.slice A9 n9 c9:=by obtain⟨A9,c9,L9,hv9,-⟩:=HO9.out.ownRow;exact⟨_,_,_,hv9⟩
   have TT9:=hide (T6.out.on HQ.out.1)
   obtain⟨hlq9,hfq9,kq9_0,kq9_1,kq9_2,kq9_3,kq9_4,kq9_5,kq9_6,kq9_7,kq9_8,kq9_9,kq9_10,kq9_11,kq9_12⟩:=TT9.out.sb
   obtain⟨hlb9,hfb9,kb9_0,kb9_1,kb9_2,kb9_3,kb9_4,kb9_5,kb9_6,kb9_7,kb9_8,kb9_9,kb9_10,kb9_11,kb9_12⟩:=TT9.out.cl.box
   go_upto_region 13 with (fail)
   refine wp_named2 fun wq7 hwq7=>?_
   have T7:=hide (show ClF w (w.heap.size+3) wq7 (w.heap.size+2) w.heap.size (w.heap.size+1) (.slice B0 m0 d0) (.slice B1 m1 d1) (.slice B2 m2 d2) (.slice B3 m3 d3) (.string x4) (.int .i64 x5) (.slice A6 x6.length c6) (.slice A7 x7.length c7) (.slice A8 x8.length c8) (.bool x9) (.int .i64 x10) (.int .i64 x11) (.int .i64 x12) (.slice A0 x0.length c0) (.slice A1 x1.length c1) (.slice A2 x2.length c2) (.slice A3 x3.length c3) (.string x4) (.int .i64 x5) (.slice A6 x6.length c6) (.slice A7 x7.length c7) (.slice A8 x8.length c8) (.bool x9) (.int .i64 x10) (.int .i64 x11) (.int .i64 x12) [⟨9,1,(.slice B0 m0 d0),[],x0.map (fun x=>[Dat.str x])⟩,⟨71,3,(.slice B1 m1 d1),L1,x1.map TRecordType.D⟩,⟨42,5,(.slice B2 m2 d2),L,x2.map TObject.D⟩,⟨34,6,(.slice B3 m3 d3),[],x3.map TValue.D⟩]from by rw[←hwq7];exact T6.out.next HQ.out.1 HO9.out HQ.out.2 3 (TT9.out.cl.box.put3 _))
   clear hlq9 hfq9 kq9_0 kq9_1 kq9_2 kq9_3 kq9_4 kq9_5 kq9_6 kq9_7 kq9_8 kq9_9 kq9_10 kq9_11 kq9_12 hlb9 hfb9 kb9_0 kb9_1 kb9_2 kb9_3 kb9_4 kb9_5 kb9_6 kb9_7 kb9_8 kb9_9 kb9_10 kb9_11 kb9_12
   clear hwq7 HQ HO9 TT9 T6
   obtain⟨hlq,hfq,kq_0,kq_1,kq_2,kq_3,kq_4,kq_5,kq_6,kq_7,kq_8,kq_9,kq_10,kq_11,kq_12⟩:=T7.out.sb
   obtain⟨hlb,hfb,kb_0,kb_1,kb_2,kb_3,kb_4,kb_5,kb_6,kb_7,kb_8,kb_9,kb_10,kb_11,kb_12⟩:=T7.out.cl.box
   have HO5:=hide (OwnD.lit0 wq7 9 1)
   obtain⟨nw,hsr⟩:=Row.src (strs_flat x6) (Row.bel (Bel.trans T7.out.cl.bel (show Bel wq7 (wq7.alloc (.cells #[] 9))from bl)) HR6.out)
   rw[List.length_map]at hsr
   have HSR:=hide hsr
   clear hsr
   go_wp2_with (at_builtin;refine wpList_append_D rfl (.tmp 46) (.tmp 48) 24 rfl 9 is (.string ByteArray.empty) 1 16 Tryd.underlying24 his zs0 zs1 zs2 (by decide) (by decide) HO5.out HSR.out c6 rfl rfl (fun b _ h=>by cases h) (by simp only[List.length_nil];omega) (by simp only[List.length_nil];unfold maxLen;omega) ?_)
   intro v9 w9 hO9 hg9 hw9
   have HQ:=hide (copy_bel hg9 hw9)
   have HO9:=hide (show OwnD w9 9 1 v9 [] (x6.map (fun x=>[Dat.str x]))from hO9)
   clear hO9 hg9 hw9 HO5 HSR
   clear hlq hfq kq_0 kq_1 kq_2 kq_3 kq_4 kq_5 kq_6 kq_7 kq_8 kq_9 kq_10 kq_11 kq_12 hlb hfb kb_0 kb_1 kb_2 kb_3 kb_4 kb_5 kb_6 kb_7 kb_8 kb_9 kb_10 kb_11 kb_12
   obtain⟨B6,m6,d6,rfl⟩:∃A9 n9 c9,v9=.slice A9 n9 c9:=by obtain⟨A9,c9,L9,hv9,-⟩:=HO9.out.ownRow;exact⟨_,_,_,hv9⟩
   have TT9:=hide (T7.out.on HQ.out.1)
   obtain⟨hlq9,hfq9,kq9_0,kq9_1,kq9_2,kq9_3,kq9_4,kq9_5,kq9_6,kq9_7,kq9_8,kq9_9,kq9_10,kq9_11,kq9_12⟩:=TT9.out.sb
   obtain⟨hlb9,hfb9,kb9_0,kb9_1,kb9_2,kb9_3,kb9_4,kb9_5,kb9_6,kb9_7,kb9_8,kb9_9,kb9_10,kb9_11,kb9_12⟩:=TT9.out.cl.box
   go_upto_region 14 with (fail)
   refine wp_named2 fun wq8 hwq8=>?_
   have T8:=hide (show ClF w (w.heap.size+3) wq8 (w.heap.size+2) w.heap.size (w.heap.size+1) (.slice B0 m0 d0) (.slice B1 m1 d1) (.slice B2 m2 d2) (.slice B3 m3 d3) (.string x4) (.int .i64 x5) (.slice B6 m6 d6) (.slice A7 x7.length c7) (.slice A8 x8.length c8) (.bool x9) (.int .i64 x10) (.int .i64 x11) (.int .i64 x12) (.slice A0 x0.length c0) (.slice A1 x1.length c1) (.slice A2 x2.length c2) (.slice A3 x3.length c3) (.string x4) (.int .i64 x5) (.slice A6 x6.length c6) (.slice A7 x7.length c7) (.slice A8 x8.length c8) (.bool x9) (.int .i64 x10) (.int .i64 x11) (.int .i64 x12) [⟨9,1,(.slice B0 m0 d0),[],x0.map (fun x=>[Dat.str x])⟩,⟨71,3,(.slice B1 m1 d1),L1,x1.map TRecordType.D⟩,⟨42,5,(.slice B2 m2 d2),L,x2.map TObject.D⟩,⟨34,6,(.slice B3 m3 d3),[],x3.map TValue.D⟩,⟨9,1,(.slice B6 m6 d6),[],x6.map (fun x=>[Dat.str x])⟩]from by rw[←hwq8];exact T7.out.next HQ.out.1 HO9.out HQ.out.2 6 (TT9.out.cl.box.put6 _))
   clear hlq9 hfq9 kq9_0 kq9_1 kq9_2 kq9_3 kq9_4 kq9_5 kq9_6 kq9_7 kq9_8 kq9_9 kq9_10 kq9_11 kq9_12 hlb9 hfb9 kb9_0 kb9_1 kb9_2 kb9_3 kb9_4 kb9_5 kb9_6 kb9_7 kb9_8 kb9_9 kb9_10 kb9_11 kb9_12
   clear hwq8 HQ HO9 TT9 T7
   obtain⟨hlq,hfq,kq_0,kq_1,kq_2,kq_3,kq_4,kq_5,kq_6,kq_7,kq_8,kq_9,kq_10,kq_11,kq_12⟩:=T8.out.sb
   obtain⟨hlb,hfb,kb_0,kb_1,kb_2,kb_3,kb_4,kb_5,kb_6,kb_7,kb_8,kb_9,kb_10,kb_11,kb_12⟩:=T8.out.cl.box
   have HO5:=hide (OwnD.lit0 wq8 9 1)
   obtain⟨nw,hsr⟩:=Row.src (strs_flat x7) (Row.bel (Bel.trans T8.out.cl.bel (show Bel wq8 (wq8.alloc (.cells #[] 9))from bl)) HR7.out)
   rw[List.length_map]at hsr
   have HSR:=hide hsr
   clear hsr
   go_wp2_with (at_builtin;refine wpList_append_D rfl (.tmp 51) (.tmp 53) 24 rfl 9 is (.string ByteArray.empty) 1 16 Tryd.underlying24 his zs0 zs1 zs2 (by decide) (by decide) HO5.out HSR.out c7 rfl rfl (fun b _ h=>by cases h) (by simp only[List.length_nil];omega) (by simp only[List.length_nil];unfold maxLen;omega) ?_)
   intro v9 w9 hO9 hg9 hw9
   have HQ:=hide (copy_bel hg9 hw9)
   have HO9:=hide (show OwnD w9 9 1 v9 [] (x7.map (fun x=>[Dat.str x]))from hO9)
   clear hO9 hg9 hw9 HO5 HSR
   clear hlq hfq kq_0 kq_1 kq_2 kq_3 kq_4 kq_5 kq_6 kq_7 kq_8 kq_9 kq_10 kq_11 kq_12 hlb hfb kb_0 kb_1 kb_2 kb_3 kb_4 kb_5 kb_6 kb_7 kb_8 kb_9 kb_10 kb_11 kb_12
   obtain⟨B7,m7,d7,rfl⟩:∃A9 n9 c9,v9=.slice A9 n9 c9:=by obtain⟨A9,c9,L9,hv9,-⟩:=HO9.out.ownRow;exact⟨_,_,_,hv9⟩
   have TT9:=hide (T8.out.on HQ.out.1)
   obtain⟨hlq9,hfq9,kq9_0,kq9_1,kq9_2,kq9_3,kq9_4,kq9_5,kq9_6,kq9_7,kq9_8,kq9_9,kq9_10,kq9_11,kq9_12⟩:=TT9.out.sb
   obtain⟨hlb9,hfb9,kb9_0,kb9_1,kb9_2,kb9_3,kb9_4,kb9_5,kb9_6,kb9_7,kb9_8,kb9_9,kb9_10,kb9_11,kb9_12⟩:=TT9.out.cl.box
   go_upto_region 15 with (fail)
   refine wp_named2 fun wq9 hwq9=>?_
   have T9:=hide (show ClF w (w.heap.size+3) wq9 (w.heap.size+2) w.heap.size (w.heap.size+1) (.slice B0 m0 d0) (.slice B1 m1 d1) (.slice B2 m2 d2) (.slice B3 m3 d3) (.string x4) (.int .i64 x5) (.slice B6 m6 d6) (.slice B7 m7 d7) (.slice A8 x8.length c8) (.bool x9) (.int .i64 x10) (.int .i64 x11) (.int .i64 x12) (.slice A0 x0.length c0) (.slice A1 x1.length c1) (.slice A2 x2.length c2) (.slice A3 x3.length c3) (.string x4) (.int .i64 x5) (.slice A6 x6.length c6) (.slice A7 x7.length c7) (.slice A8 x8.length c8) (.bool x9) (.int .i64 x10) (.int .i64 x11) (.int .i64 x12) [⟨9,1,(.slice B0 m0 d0),[],x0.map (fun x=>[Dat.str x])⟩,⟨71,3,(.slice B1 m1 d1),L1,x1.map TRecordType.D⟩,⟨42,5,(.slice B2 m2 d2),L,x2.map TObject.D⟩,⟨34,6,(.slice B3 m3 d3),[],x3.map TValue.D⟩,⟨9,1,(.slice B6 m6 d6),[],x6.map (fun x=>[Dat.str x])⟩,⟨9,1,(.slice B7 m7 d7),[],x7.map (fun x=>[Dat.str x])⟩]from by rw[←hwq9];exact T8.out.next HQ.out.1 HO9.out HQ.out.2 7 (TT9.out.cl.box.put7 _))
   clear hlq9 hfq9 kq9_0 kq9_1 kq9_2 kq9_3 kq9_4 kq9_5 kq9_6 kq9_7 kq9_8 kq9_9 kq9_10 kq9_11 kq9_12 hlb9 hfb9 kb9_0 kb9_1 kb9_2 kb9_3 kb9_4 kb9_5 kb9_6 kb9_7 kb9_8 kb9_9 kb9_10 kb9_11 kb9_12
   clear hwq9 HQ HO9 TT9 T8
   obtain⟨hlq,hfq,kq_0,kq_1,kq_2,kq_3,kq_4,kq_5,kq_6,kq_7,kq_8,kq_9,kq_10,kq_11,kq_12⟩:=T9.out.sb
   obtain⟨hlb,hfb,kb_0,kb_1,kb_2,kb_3,kb_4,kb_5,kb_6,kb_7,kb_8,kb_9,kb_10,kb_11,kb_12⟩:=T9.out.cl.box
   have HO5:=hide (OwnD.lit0 wq9 53 2)
   obtain⟨nw,hsr⟩:=Row.src (act_flat x8) (Row.bel (Bel.trans T9.out.cl.bel (show Bel wq9 (wq9.alloc (.cells #[] 53))from bl)) HR8.out)
   rw[List.length_map]at hsr
   have HSR:=hide hsr
   clear hsr
   go_wp2_with (at_builtin;refine wpList_append_D rfl (.tmp 56) (.tmp 58) 28 rfl 53 ia (.agg #[.int .i64 0,.int .i64 0]) 2 16 Tryd.underlying28 hia za0 za1 za2 (by decide) (by decide) HO5.out HSR.out c8 rfl rfl (fun b _ h=>by cases h) (by simp only[List.length_nil];omega) (by simp only[List.length_nil];unfold maxLen;omega) ?_)
   intro v9 w9 hO9 hg9 hw9
   have HQ:=hide (copy_bel hg9 hw9)
   have HO9:=hide (show OwnD w9 53 2 v9 [] (x8.map TActive.D)from hO9)
   clear hO9 hg9 hw9 HO5 HSR
   clear hlq hfq kq_0 kq_1 kq_2 kq_3 kq_4 kq_5 kq_6 kq_7 kq_8 kq_9 kq_10 kq_11 kq_12 hlb hfb kb_0 kb_1 kb_2 kb_3 kb_4 kb_5 kb_6 kb_7 kb_8 kb_9 kb_10 kb_11 kb_12
   obtain⟨B8,m8,d8,rfl⟩:∃A9 n9 c9,v9=.slice A9 n9 c9:=by obtain⟨A9,c9,L9,hv9,-⟩:=HO9.out.ownRow;exact⟨_,_,_,hv9⟩
   have TT9:=hide (T9.out.on HQ.out.1)
   obtain⟨hlq9,hfq9,kq9_0,kq9_1,kq9_2,kq9_3,kq9_4,kq9_5,kq9_6,kq9_7,kq9_8,kq9_9,kq9_10,kq9_11,kq9_12⟩:=TT9.out.sb
   obtain⟨hlb9,hfb9,kb9_0,kb9_1,kb9_2,kb9_3,kb9_4,kb9_5,kb9_6,kb9_7,kb9_8,kb9_9,kb9_10,kb9_11,kb9_12⟩:=TT9.out.cl.box
   go_upto_region 16 with (fail)
   refine wp_named2 fun wq10 hwq10=>?_
   have T10:=hide (show ClF w (w.heap.size+3) wq10 (w.heap.size+2) w.heap.size (w.heap.size+1) (.slice B0 m0 d0) (.slice B1 m1 d1) (.slice B2 m2 d2) (.slice B3 m3 d3) (.string x4) (.int .i64 x5) (.slice B6 m6 d6) (.slice B7 m7 d7) (.slice B8 m8 d8) (.bool x9) (.int .i64 x10) (.int .i64 x11) (.int .i64 x12) (.slice A0 x0.length c0) (.slice A1 x1.length c1) (.slice A2 x2.length c2) (.slice A3 x3.length c3) (.string x4) (.int .i64 x5) (.slice A6 x6.length c6) (.slice A7 x7.length c7) (.slice A8 x8.length c8) (.bool x9) (.int .i64 x10) (.int .i64 x11) (.int .i64 x12) [⟨9,1,(.slice B0 m0 d0),[],x0.map (fun x=>[Dat.str x])⟩,⟨71,3,(.slice B1 m1 d1),L1,x1.map TRecordType.D⟩,⟨42,5,(.slice B2 m2 d2),L,x2.map TObject.D⟩,⟨34,6,(.slice B3 m3 d3),[],x3.map TValue.D⟩,⟨9,1,(.slice B6 m6 d6),[],x6.map (fun x=>[Dat.str x])⟩,⟨9,1,(.slice B7 m7 d7),[],x7.map (fun x=>[Dat.str x])⟩,⟨53,2,(.slice B8 m8 d8),[],x8.map TActive.D⟩]from by rw[←hwq10];exact T9.out.next HQ.out.1 HO9.out HQ.out.2 8 (TT9.out.cl.box.put8 _))
   clear hlq9 hfq9 kq9_0 kq9_1 kq9_2 kq9_3 kq9_4 kq9_5 kq9_6 kq9_7 kq9_8 kq9_9 kq9_10 kq9_11 kq9_12 hlb9 hfb9 kb9_0 kb9_1 kb9_2 kb9_3 kb9_4 kb9_5 kb9_6 kb9_7 kb9_8 kb9_9 kb9_10 kb9_11 kb9_12
   clear hwq10 HQ HO9 TT9 T9
   have HRB:=hide T10.out.rb
   obtain⟨hlq,hfq,kq_0,kq_1,kq_2,kq_3,kq_4,kq_5,kq_6,kq_7,kq_8,kq_9,kq_10,kq_11,kq_12⟩:=T10.out.sb
   obtain⟨hlb,hfb,kb_0,kb_1,kb_2,kb_3,kb_4,kb_5,kb_6,kb_7,kb_8,kb_9,kb_10,kb_11,kb_12⟩:=T10.out.cl.box
   refine wp_region_lit ?_
   refine wpList_plain rfl fun K hK=>?_
   go_simp
   refine hK _ _ ?_
   refine wpList_store_mid rfl 30 (.tmp 2) (.tmp 61) rfl (w.heap.size+1) 0 #[.slice B0 m0 d0,.slice B1 m1 d1,.slice B2 m2 d2,.slice B3 m3 d3,.string x4,.int .i64 x5,.slice B6 m6 d6,.slice B7 m7 d7,.slice B8 m8 d8,.bool x9,.int .i64 x10,.int .i64 x11,.int .i64 x12] rfl rfl HRB.out.there (by kernel_rfl) (by simp[Value.oneCell']) ?_
   refine wpList_namedF fun wz hwz=>?_
   replace hwz:wz=(((((((((((((wq10.setCell ⟨w.heap.size+1,0,none⟩ (.slice B0 m0 d0)).setCell ⟨w.heap.size+1,1,none⟩ (.slice B1 m1 d1)).setCell ⟨w.heap.size+1,2,none⟩ (.slice B2 m2 d2)).setCell ⟨w.heap.size+1,3,none⟩ (.slice B3 m3 d3)).setCell ⟨w.heap.size+1,4,none⟩ (.string x4)).setCell ⟨w.heap.size+1,5,none⟩ (.int .i64 x5)).setCell ⟨w.heap.size+1,6,none⟩ (.slice B6 m6 d6)).setCell ⟨w.heap.size+1,7,none⟩ (.slice B7 m7 d7)).setCell ⟨w.heap.size+1,8,none⟩ (.slice B8 m8 d8)).setCell ⟨w.heap.size+1,9,none⟩ (.bool x9)).setCell ⟨w.heap.size+1,10,none⟩ (.int .i64 x10)).setCell ⟨w.heap.size+1,11,none⟩ (.int .i64 x11)).setCell ⟨w.heap.size+1,12,none⟩ (.int .i64 x12)):=hwz
   have hsame:∀y,(w.heap.size+1)≠y→wz.heap[y]?=wq10.heap[y]?:=fun y hy=>by rw[hwz,set_block 12 _ hy,set_block 11 _ hy,set_block 10 _ hy,set_block 9 _ hy,set_block 8 _ hy,set_block 7 _ hy,set_block 6 _ hy,set_block 5 _ hy,set_block 4 _ hy,set_block 3 _ hy,set_block 2 _ hy,set_block 1 _ hy,set_block 0 _ hy]
   have hsz:wz.heap.size=wq10.heap.size:=by rw[hwz];simp
   have PZ:SB wz (w.heap.size+1) (.slice B0 m0 d0) (.slice B1 m1 d1) (.slice B2 m2 d2) (.slice B3 m3 d3) (.string x4) (.int .i64 x5) (.slice B6 m6 d6) (.slice B7 m7 d7) (.slice B8 m8 d8) (.bool x9) (.int .i64 x10) (.int .i64 x11) (.int .i64 x12):=by rw[hwz];exact ((((((((((((HRB.out.put0 _).put1 _).put2 _).put3 _).put4 _).put5 _).put6 _).put7 _).put8 _).put9 _).put10 _).put11 _).put12 _
   have hbz:Bel w wz:=by rw[hwz];exact (Below.setCell (Below.setCell (Below.setCell (Below.setCell (Below.setCell (Below.setCell (Below.setCell (Below.setCell (Below.setCell (Below.setCell (Below.setCell (Below.setCell (Below.setCell T10.out.cl.bel (show w.heap.size≤w.heap.size+1 by omega) _) (show w.heap.size≤w.heap.size+1 by omega) _) (show w.heap.size≤w.heap.size+1 by omega) _) (show w.heap.size≤w.heap.size+1 by omega) _) (show w.heap.size≤w.heap.size+1 by omega) _) (show w.heap.size≤w.heap.size+1 by omega) _) (show w.heap.size≤w.heap.size+1 by omega) _) (show w.heap.size≤w.heap.size+1 by omega) _) (show w.heap.size≤w.heap.size+1 by omega) _) (show w.heap.size≤w.heap.size+1 by omega) _) (show w.heap.size≤w.heap.size+1 by omega) _) (show w.heap.size≤w.heap.size+1 by omega) _) (show w.heap.size≤w.heap.size+1 by omega) _)
   have hez:Ents w.heap.size wz [⟨9,1,(.slice B0 m0 d0),[],x0.map (fun x=>[Dat.str x])⟩,⟨71,3,(.slice B1 m1 d1),L1,x1.map TRecordType.D⟩,⟨42,5,(.slice B2 m2 d2),L,x2.map TObject.D⟩,⟨34,6,(.slice B3 m3 d3),[],x3.map TValue.D⟩,⟨9,1,(.slice B6 m6 d6),[],x6.map (fun x=>[Dat.str x])⟩,⟨9,1,(.slice B7 m7 d7),[],x7.map (fun x=>[Dat.str x])⟩,⟨53,2,(.slice B8 m8 d8),[],x8.map TActive.D⟩]:=(T10.out.cl.ents.keep (by omega) (fun e he x hx=>hsame x (by have:=T10.out.cl.ents.low e he x hx;omega))).weak (by omega)
   clear hlq hfq kq_0 kq_1 kq_2 kq_3 kq_4 kq_5 kq_6 kq_7 kq_8 kq_9 kq_10 kq_11 kq_12 hlb hfb kb_0 kb_1 kb_2 kb_3 kb_4 kb_5 kb_6 kb_7 kb_8 kb_9 kb_10 kb_11 kb_12
   obtain⟨-,-,e0,e1,e2,e3,e4,e5,e6,e7,e8,e9,e10,e11,e12⟩:=PZ
   clear hwz HRB hsame hsz
   refine wpList_nil ?_
   go_simp
   rename_i hKr
   refine hKr _ _ ?_
   clear hKr hK
   refine wp_ret ?_
   exact bodyPost_ret (v:=.agg #[.slice B0 m0 d0,.slice B1 m1 d1,.slice B2 m2 d2,.slice B3 m3 d3,.string x4,.int .i64 x5,.slice B6 m6 d6,.slice B7 m7 d7,.slice B8 m8 d8,.bool x9,.int .i64 x10,.int .i64 x11,.int .i64 x12]) (by simp[results,Tryd.results13,e0,e1,e2,e3,e4,e5,e6,e7,e8,e9,e10,e11,e12,go_sem];try rfl) rfl ⟨_,_,_,_,_,_,_,_,_,_,_,_,_,_,rfl,hez,hbz⟩
end Go.Proofs.YtoikhhnmbbbjjaaDoor
namespace Go.Proofs.YtoikhhnmbbbjjaaDoor
set_option linter.unusedVariables false
set_option linter.unusedSimpArgs false
set_option maxRecDepth 100000
open Go.RowKit
set_option maxHeartbeats 4000000 in
theorem implCpy_any:CpyC 6:=by
 intro s v S w vs htab hv hx hwt
 have HX:=hide hx
 have HT:=hide htab
 have HV:=hide hv
 have HWT:=hide hwt
 obtain⟨x0,x1,x2,x3,x4,x5,x6,x7,x8,x9,x10,x11,x12⟩:=s
 obtain⟨A0,c0,A1,c1,A2,c2,A3,c3,A6,c6,A7,c7,A8,c8,rfl,g0,g1,g2,g3,g4,g5,g6,g7,g8,-,g10,g11,g12⟩:=TStore.vals hv
 have HG:=hide (show x4.size≤maxLen∧InI x5∧InI x10∧InI x11∧InI x12 from⟨g4,g5,g10,g11,g12⟩)
 rw[TStore.D_mk]at hwt
 simp only[Dat.lnL,Dat.ln,List.length_map]at hwt
 have hlc0:=g0.1
 have hcm0:=g0.2.1
 simp only[List.length_map]at hlc0
 unfold maxLen at hcm0
 have hlc1:=g1.1
 have hcm1:=g1.2.1
 simp only[List.length_map]at hlc1
 unfold maxLen at hcm1
 have hlc2:=g2.1
 have hcm2:=g2.2.1
 simp only[List.length_map]at hlc2
 unfold maxLen at hcm2
 have hlc3:=g3.1
 have hcm3:=g3.2.1
 simp only[List.length_map]at hlc3
 unfold maxLen at hcm3
 have hlc6:=g6.1
 have hcm6:=g6.2.1
 simp only[List.length_map]at hlc6
 unfold maxLen at hcm6
 have hlc7:=g7.1
 have hcm7:=g7.2.1
 simp only[List.length_map]at hlc7
 unfold maxLen at hcm7
 have hlc8:=g8.1
 have hcm8:=g8.2.1
 simp only[List.length_map]at hlc8
 unfold maxLen at hcm8
 have HSZ:=hide (show ∀(j:Nat) (h:j<x2.length),x2[j].its.length≤1048576∧x2[j].kys.length≤1048576 from fun j h=>by have:=wt_objs x2 j h;omega)
 have hl2:x2.length≤1048576:=by omega
 obtain⟨k,n,i,t,lo,hi⟩:=v
 simp only[VVal.val]
 have HX6:=hide (HX.out.k)
 clear hv htab hx hwt g0 g1 g2 g3 g4 g5 g6 g7 g8 g10 g11 g12
 obtain⟨bi,hbi⟩:∃q,validB (TStore.mk x0 x1 x2 x3 x4 x5 x6 x7 x8 x9 x10 x11 x12)=q:=⟨_,rfl⟩
 obtain⟨bd,hbd⟩:∃q,dataB (TStore.mk x0 x1 x2 x3 x4 x5 x6 x7 x8 x9 x10 x11 x12) ⟨k,n,i,t,lo,hi⟩=q:=⟨_,rfl⟩
 have HI:=hide hbi
 have HD:=hide hbd
 clear hbi hbd
 obtain⟨ok,hok⟩:∃q,copOk (TStore.mk x0 x1 x2 x3 x4 x5 x6 x7 x8 x9 x10 x11 x12) (tvOf ⟨k,n,i,t,lo,hi⟩)=q:=⟨_,rfl⟩
 have HO:=hide hok
 have hob:ok=(bi&&bd):=by rw[←hok,←HI.out,←HD.out];rfl
 have HOB:=hide hob
 clear hok hob
 go_enter Tryd.func6,Tryd.ntmps6
 go_upto_region 1 with (fail)
 refine wp_named2 fun w1 hw1=>?_
 have hbw:Bel w w1:=by rw[←hw1];exact bl
 obtain⟨a1,ha1⟩:∃x,w.alloc (.cells #[.slice A0 x0.length c0,.slice A1 x1.length c1,.slice A2 x2.length c2,.slice A3 x3.length c3,.string x4,.int .i64 x5,.slice A6 x6.length c6,.slice A7 x7.length c7,.slice A8 x8.length c8,.bool x9,.int .i64 x10,.int .i64 x11,.int .i64 x12] 30)=x:=⟨_,rfl⟩
 obtain⟨a2,ha2⟩:∃x,a1.alloc (.cells #[.int .i64 k,.int .i64 n,.int .i64 i,.string t,.int .i64 lo,.int .i64 hi] 34)=x:=⟨_,rfl⟩
 obtain⟨a3,ha3⟩:∃x,a2.alloc (.cells #[.slice none 0 0,.slice none 0 0,.slice none 0 0,.slice none 0 0,.string ByteArray.empty,.int .i64 0,.slice none 0 0,.slice none 0 0,.slice none 0 0,.bool false,.int .i64 0,.int .i64 0,.int .i64 0] 30)=x:=⟨_,rfl⟩
 replace hw1:a3.alloc (.cells #[.int .i64 0,.int .i64 0,.int .i64 0,.string ByteArray.empty,.int .i64 0,.int .i64 0] 34)=w1:=by rw[←ha3,←ha2,←ha1];exact hw1
 have q1:a1.heap.size=w.heap.size+1:=by rw[←ha1];simp
 have q2:a2.heap.size=w.heap.size+1+1:=by rw[←ha2];simp[q1]
 have q3:a3.heap.size=w.heap.size+1+1+1:=by rw[←ha3];simp[q2]
 have e1:Bel a1 w1:=by rw[←hw1,←ha3,←ha2];exact bl
 have e2:Bel a2 w1:=by rw[←hw1,←ha3];exact bl
 have e3:Bel a3 w1:=by rw[←hw1];exact bl
 have HA:=hide (show SB w1 (w.heap.size) (.slice A0 x0.length c0) (.slice A1 x1.length c1) (.slice A2 x2.length c2) (.slice A3 x3.length c3) (.string x4) (.int .i64 x5) (.slice A6 x6.length c6) (.slice A7 x7.length c7) (.slice A8 x8.length c8) (.bool x9) (.int .i64 x10) (.int .i64 x11) (.int .i64 x12)from SB.on (by rw[←ha1];exact SB.new _ _) e1)
 have HSt:=hide (show StoreAt w1 S (w.heap.size) (TStore.mk x0 x1 x2 x3 x4 x5 x6 x7 x8 x9 x10 x11 x12)from StoreAt.bel e1 (by rw[←ha1];exact StoreAt.mk_of (HV.out) rfl))
 have HB:=hide (show VB w1 (w.heap.size+1) k n i t lo hi from VB.on (by rw[←ha2,←q1];exact⟨by simp,by simp[go_sem],by simp[go_sem],by simp[go_sem],by simp[go_sem],by simp[go_sem],by simp[go_sem]⟩) e2)
 have HC:=hide (show SB w1 (w.heap.size+1+1) (.slice none 0 0) (.slice none 0 0) (.slice none 0 0) (.slice none 0 0) (.string ByteArray.empty) (.int .i64 0) (.slice none 0 0) (.slice none 0 0) (.slice none 0 0) (.bool false) (.int .i64 0) (.int .i64 0) (.int .i64 0)from SB.on (by rw[←ha3,←q2];exact SB.new _ _) e3)
 have HZ:=hide (show Z6 w1 (w.heap.size+1+1+1)from by rw[←hw1,←q3];exact Z6.new)
 clear q1 q2 q3 e1 e2 e3 hw1 ha1 ha2 ha3 a1 a2 a3
 obtain⟨hla,hfa,ka_0,ka_1,ka_2,ka_3,ka_4,ka_5,ka_6,ka_7,ka_8,ka_9,ka_10,ka_11,ka_12⟩:=HA.out
 obtain⟨hlv,y0,y1,y2,y3,y4,y5⟩:=HB.out
 go_cut [16]from 9 (fun c wx=>c=.bool (!ok)∧Bel w1 wx)
 case first =>
  skip
  cases bi
  ·
   have hoq:=HOB.out
   simp only[Bool.false_and]at hoq
   subst hoq
   go_wp2_with (go_at_call 9;refine (implValid_any (TStore.mk x0 x1 x2 x3 x4 x5 x6 x7 x8 x9 x10 x11 x12) S _ _ (HT.out.on hbw) (Dat.HoldVals.bel hbw HV.out)).mono ?_;rintro e w2 ⟨rfl,hb2⟩;rw[HI.out];obtain⟨hlv2,z0,z1,z2,z3,z4,z5⟩:=HB.out.on hb2)
   all_goals go_meet
   all_goals exact⟨rfl,hb2⟩
  ·
   cases bd
   ·
    have hoq:=HOB.out
    simp only[Bool.and_false]at hoq
    exact rk147
   ·
    have hoq:=HOB.out
    simp only[Bool.and_true]at hoq
    exact rk147
 clear hla hfa ka_0 ka_1 ka_2 ka_3 ka_4 ka_5 ka_6 ka_7 ka_8 ka_9 ka_10 ka_11 ka_12
 case rest =>
  obtain⟨rfl,hb3⟩:=hcut
  obtain⟨w3,rfl⟩:∃w3,w3=wc:=⟨_,rfl⟩
  have hbw3:=hbw.trans hb3
  have HA3:=hide (HA.out.on hb3)
  have HB3:=hide (HB.out.on hb3)
  have HC3:=hide (HC.out.on hb3)
  have HZ3:=hide (HZ.out.on hb3)
  have hz3:=hb3.size
  have hw3z:w.heap.size+1+1+1<w3.heap.size:=HZ3.out.2.2.2.2.2.2.2
  clear HA HB HC HZ HSt hb3
  (try clear hla hfa ka_0 ka_1 ka_2 ka_3 ka_4 ka_5 ka_6 ka_7 ka_8 ka_9 ka_10 ka_11 ka_12 hlv y0 y1 y2 y3 y4 y5)
  cases ok
  ·
   skip
   obtain⟨hlc,hfc,kc_0,kc_1,kc_2,kc_3,kc_4,kc_5,kc_6,kc_7,kc_8,kc_9,kc_10,kc_11,kc_12⟩:=HC3.out
   obtain⟨cz0,cz1,cz2,cz3,cz4,cz5,cz6,cz7⟩:=HZ3.out
   (try simp only[Bool.not_false])
   go_wp2_with (fail)
   all_goals exact bodyPost_ret (v:=.tuple #[.agg #[.slice none 0 0,.slice none 0 0,.slice none 0 0,.slice none 0 0,.string ByteArray.empty,.int .i64 0,.slice none 0 0,.slice none 0 0,.slice none 0 0,.bool false,.int .i64 0,.int .i64 0,.int .i64 0],.agg #[.int .i64 0,.int .i64 0,.int .i64 0,.string ByteArray.empty,.int .i64 0,.int .i64 0],.bool false]) (by simp[results,Tryd.results6,go_sem, * ];try rfl) rfl (cpy_fail HO.out bl)
  ·
   skip
   (try simp only[Bool.not_true])
   have hbd:bd=true:=by have h:=HOB.out;revert h;cases bi <;> cases bd <;> decide
   subst hbd
   obtain⟨hla,hfa,ka_0,ka_1,ka_2,ka_3,ka_4,ka_5,ka_6,ka_7,ka_8,ka_9,ka_10,ka_11,ka_12⟩:=HA3.out
   obtain⟨hlv,y0,y1,y2,y3,y4,y5⟩:=HB3.out
   go_upto_region 4 with (go_at_call 13;refine (implClone_any x0 x1 x2 x3 x4 x5 x6 x7 x8 x9 x10 x11 x12 S _ _ (Dat.HoldVals.bel hbw3 HV.out) HWT.out).mono ?_;rintro e w4 ⟨v0,v1,v2,v3,v6,v7,v8,L0,L1,L2,L3,L6,L7,L8,rfl,hE,hb4⟩;obtain⟨B0,d0,-,e0,-⟩:=(hE.own ⟨9,1,v0,L0,x0.map (fun x=>[Dat.str x])⟩ (by simp)).ownRow;simp only[List.length_map]at e0;subst e0;obtain⟨B1,d1,-,e1,-⟩:=(hE.own ⟨71,3,v1,L1,x1.map TRecordType.D⟩ (by simp)).ownRow;simp only[List.length_map]at e1;subst e1;obtain⟨B2,d2,-,e2,-⟩:=(hE.own ⟨42,5,v2,L2,x2.map TObject.D⟩ (by simp)).ownRow;simp only[List.length_map]at e2;subst e2;obtain⟨B3,d3,-,e3,-⟩:=(hE.own ⟨34,6,v3,L3,x3.map TValue.D⟩ (by simp)).ownRow;simp only[List.length_map]at e3;subst e3;obtain⟨B6,d6,-,e6,-⟩:=(hE.own ⟨9,1,v6,L6,x6.map (fun x=>[Dat.str x])⟩ (by simp)).ownRow;simp only[List.length_map]at e6;subst e6;obtain⟨B7,d7,-,e7,-⟩:=(hE.own ⟨9,1,v7,L7,x7.map (fun x=>[Dat.str x])⟩ (by simp)).ownRow;simp only[List.length_map]at e7;subst e7;obtain⟨B8,d8,-,e8,-⟩:=(hE.own ⟨53,2,v8,L8,x8.map TActive.D⟩ (by simp)).ownRow;simp only[List.length_map]at e8;subst e8;have HE:=hide hE;clear hE)
   refine wp_named2 fun wr hwr=>?_
   have hb4r:Bel w4 wr:=by rw[←hwr];exact bl
   have hb3r:=hb4.trans hb4r
   have SR:=(show SB wr w4.heap.size (.slice B0 x0.length d0) (.slice B1 x1.length d1) (.slice B2 x2.length d2) (.slice B3 x3.length d3) (.string x4) (.int .i64 x5) (.slice B6 x6.length d6) (.slice B7 x7.length d7) (.slice B8 x8.length d8) (.bool x9) (.int .i64 x10) (.int .i64 x11) (.int .i64 x12)from by rw[←hwr];exact SB.new _ _)
   have hzr:w4.heap.size<wr.heap.size:=SR.1
   clear hwr
   clear hla hfa ka_0 ka_1 ka_2 ka_3 ka_4 ka_5 ka_6 ka_7 ka_8 ka_9 ka_10 ka_11 ka_12
   clear hlv y0 y1 y2 y3 y4 y5
   have HMK:=hide (show MkS w3.heap.size wr w4.heap.size (.slice B0 x0.length d0) (.slice B1 x1.length d1) (.slice B2 x2.length d2) (.slice B3 x3.length d3) (.string x4) (.int .i64 x5) (.slice B6 x6.length d6) (.slice B7 x7.length d7) (.slice B8 x8.length d8) (.bool x9) (.int .i64 x10) (.int .i64 x11) (.int .i64 x12) [⟨9,1,.slice B0 x0.length d0,L0,x0.map (fun x=>[Dat.str x])⟩,⟨71,3,.slice B1 x1.length d1,L1,x1.map TRecordType.D⟩] [⟨34,6,.slice B3 x3.length d3,L3,x3.map TValue.D⟩,⟨9,1,.slice B6 x6.length d6,L6,x6.map (fun x=>[Dat.str x])⟩,⟨9,1,.slice B7 x7.length d7,L7,x7.map (fun x=>[Dat.str x])⟩,⟨53,2,.slice B8 x8.length d8,L8,x8.map TActive.D⟩] L2 (x2.map TObject.D)from⟨SR,HE.out.bel hb4r,fun f hf hc=>Nat.lt_irrefl _ ((HE.out.own f hf).lt _ hc)⟩)
   have hv2:∀b,Value.ownBlock (.slice B2 x2.length d2)=some b→w3.heap.size≤b:=fun b hb=>HE.out.low ⟨42,5,.slice B2 x2.length d2,L2,x2.map TObject.D⟩ (by simp) b (Or.inl hb)
   have HV2:=hide hv2
   have hz4:=hb4.size
   clear SR HE hv2
   generalize w4.heap.size=q at HMK hzr hz4 ⊢
   have hw3w:w.heap.size≤w3.heap.size:=by omega
   have HB4:=hide (HB3.out.on hb3r)
   have HC4:=hide (HC3.out.on hb3r)
   have HZ4:=hide (HZ3.out.on hb3r)
   have hbwr:=hbw3.trans hb3r
   have hzrr:=hb3r.size
   clear HA3 HB3 HC3 HZ3 hb4 hb4r hb3r hbw3 w4
   obtain⟨hlv,y0,y1,y2,y3,y4,y5⟩:=HB4.out
   go_upto_region 5 with (go_at_call 14;refine (implCopied_any w3.heap.size wr q (.slice B0 x0.length d0) (.slice B1 x1.length d1) (.slice B2 x2.length d2) (.slice B3 x3.length d3) (.string x4) (.int .i64 x5) (.slice B6 x6.length d6) (.slice B7 x7.length d7) (.slice B8 x8.length d8) (.bool x9) (.int .i64 x10) (.int .i64 x11) x12 [⟨9,1,.slice B0 x0.length d0,L0,x0.map (fun x=>[Dat.str x])⟩,⟨71,3,.slice B1 x1.length d1,L1,x1.map TRecordType.D⟩] [⟨34,6,.slice B3 x3.length d3,L3,x3.map TValue.D⟩,⟨9,1,.slice B6 x6.length d6,L6,x6.map (fun x=>[Dat.str x])⟩,⟨9,1,.slice B7 x7.length d7,L7,x7.map (fun x=>[Dat.str x])⟩,⟨53,2,.slice B8 x8.length d8,L8,x8.map TActive.D⟩] L2 x2 k n i t lo hi HMK.out (fun hc=>dataB_obj HD.out hc) hl2 HSZ.out (by omega)).mono ?_;intro e w5 hP;obtain⟨yy,LL,rfl,hM5,ho5⟩:=hP.out HMK.out;simp only[VVal.val];have HM5:=hide hM5;have HO5:=hide ho5;clear hP hM5 ho5)
   refine wp_named2 fun w6 hw6=>?_
   have hb56:Bel w5 w6:=by rw[←hw6];exact bl
   clear hlv y0 y1 y2 y3 y4 y5
   obtain⟨By,dy,-,ey,-⟩:=(HM5.out.ents.own ⟨42,5,yy,LL,(copO x2 x12 k n).map TObject.D⟩ (by simp)).ownRow
   simp only[List.length_map]at ey
   subst ey
   obtain⟨vv,hvv⟩:∃x,copVV x2 ⟨k,n,i,t,lo,hi⟩=x:=⟨_,rfl⟩
   rw[hvv]at hw6 ⊢
   have HVV:=hide hvv
   clear hvv
   obtain⟨vk,vn,vi,vt,vlo,vhi⟩:=vv
   simp only at hw6 ⊢
   have HB8:=hide (show VB w6 w5.heap.size vk vn vi vt vlo vhi from by rw[←hw6];exact⟨by simp,by simp[go_sem],by simp[go_sem],by simp[go_sem],by simp[go_sem],by simp[go_sem],by simp[go_sem]⟩)
   clear hw6
   have h5z:=HO5.out.size
   have hq5:q<w5.heap.size:=HM5.out.box.1
   have HM6:=hide (HM5.out.on hb56)
   have hO6:=HO5.out.bel hb56
   have HO6:=hide hO6
   have HC6:=hide (HC4.out.block hO6.size (hO6.block (w.heap.size+1+1) ⟨by omega,fun e=>by have:=HV2.out _ e;omega⟩ (by omega)))
   have HZ6:=hide (HZ4.out.block hO6.size (hO6.block (w.heap.size+1+1+1) ⟨by omega,fun e=>by have:=HV2.out _ e;omega⟩ (by omega)))
   have hbw6:=hO6.toBel hbwr (fun x hx=>⟨by omega,fun e=>by have:=HV2.out _ e;omega⟩)
   clear HM5 HC4 HZ4 HB4 HMK HO5 hO6
   generalize w5.heap.size=b8 at HB8 hq5 ⊢
   obtain⟨hlq,hfq,kq_0,kq_1,kq_2,kq_3,kq_4,kq_5,kq_6,kq_7,kq_8,kq_9,kq_10,kq_11,kq_12⟩:=HM6.out.box
   obtain⟨hlv,y0,y1,y2,y3,y4,y5⟩:=HB8.out
   obtain⟨hlc,hfc,kc_0,kc_1,kc_2,kc_3,kc_4,kc_5,kc_6,kc_7,kc_8,kc_9,kc_10,kc_11,kc_12⟩:=HC6.out
   obtain⟨cz0,cz1,cz2,cz3,cz4,cz5,cz6,cz7⟩:=HZ6.out
   go_region
   refine ex_named (Q:=Exit.then _ _) fun w7 hw7=>?_
   obtain⟨S7,⟨m0,m1,m2,m3,m4,m5⟩,o7⟩:=put19 HC6.out HZ6.out (by omega) hw7
   clear hw7
   obtain⟨-,-,s0,s1,s2,s3,s4,s5,s6,s7,s8,s9,s10,s11,s12⟩:=S7
   have hE7:Ents w3.heap.size w7 [⟨9,1,.slice B0 x0.length d0,L0,x0.map (fun x=>[Dat.str x])⟩,⟨71,3,.slice B1 x1.length d1,L1,x1.map TRecordType.D⟩,⟨42,5,.slice By (copO x2 x12 k n).length dy,LL,(copO x2 x12 k n).map TObject.D⟩,⟨34,6,.slice B3 x3.length d3,L3,x3.map TValue.D⟩,⟨9,1,.slice B6 x6.length d6,L6,x6.map (fun x=>[Dat.str x])⟩,⟨9,1,.slice B7 x7.length d7,L7,x7.map (fun x=>[Dat.str x])⟩,⟨53,2,.slice B8 x8.length d8,L8,x8.map TActive.D⟩]:=HM6.out.ents.keep o7.size fun e he x hx=>by have h1:=HM6.out.ents.low e he x hx;exact o7.block x ⟨by omega,by omega⟩ ((HM6.out.ents.own e he).lt x hx)
   obtain⟨LF,hOF,hNF,hLF⟩:=ents_own hE7 HG.out.1 HG.out.2.1 HG.out.2.2.1 HG.out.2.2.2.1 (copM_ok (k:=k) HG.out.2.2.2.2)
   have hbw7:=o7.toBel hbw6 (fun x hx=>⟨by omega,by omega⟩)
   have HOF:=hide hOF
   have HLF:=hide (show ∀b,b∈LF→w.heap.size≤b from fun b hb=>by have:=hLF b hb;omega)
   have HNF:=hide hNF
   (try clear hOF)
   (try clear hLF)
   (try clear hNF)
   (try clear hlq)
   (try clear hfq)
   (try clear kq_0)
   (try clear kq_1)
   (try clear kq_2)
   (try clear kq_3)
   (try clear kq_4)
   (try clear kq_5)
   (try clear kq_6)
   (try clear kq_7)
   (try clear kq_8)
   (try clear kq_9)
   (try clear kq_10)
   (try clear kq_11)
   (try clear kq_12)
   (try clear hlv)
   (try clear y0)
   (try clear y1)
   (try clear y2)
   (try clear y3)
   (try clear y4)
   (try clear y5)
   (try clear hlc)
   (try clear hfc)
   (try clear kc_0)
   (try clear kc_1)
   (try clear kc_2)
   (try clear kc_3)
   (try clear kc_4)
   (try clear kc_5)
   (try clear kc_6)
   (try clear kc_7)
   (try clear kc_8)
   (try clear kc_9)
   (try clear kc_10)
   (try clear kc_11)
   (try clear kc_12)
   (try clear cz0)
   (try clear cz1)
   (try clear cz2)
   (try clear cz3)
   (try clear cz4)
   (try clear cz5)
   (try clear cz6)
   (try clear cz7)
   go_wp2_with (fail)
   exact bodyPost_ret (v:=.tuple #[.agg #[.slice B0 x0.length d0,.slice B1 x1.length d1,.slice By (copO x2 x12 k n).length dy,.slice B3 x3.length d3,.string x4,.int .i64 x5,.slice B6 x6.length d6,.slice B7 x7.length d7,.slice B8 x8.length d8,.bool x9,.int .i64 x10,.int .i64 x11,.int .i64 (copM x12 k)],.agg #[.int .i64 vk,.int .i64 vn,.int .i64 vi,.string vt,.int .i64 vlo,.int .i64 vhi],.bool true]) (by simp[results,Tryd.results6,go_sem,s0,s1,s2,s3,s4,s5,s6,s7,s8,s9,s10,s11,s12,m0,m1,m2,m3,m4,m5];try rfl) rfl ⟨_,LF,by rw[HO.out];unfold copW;rw[if_pos HO.out,copV_eq,HVV.out];rfl,by unfold copT;rw[if_pos HO.out,copS_eq];exact HOF.out,HNF.out,HLF.out,hbw7⟩
end Go.Proofs.YtoikhhnmbbbjjaaDoor
