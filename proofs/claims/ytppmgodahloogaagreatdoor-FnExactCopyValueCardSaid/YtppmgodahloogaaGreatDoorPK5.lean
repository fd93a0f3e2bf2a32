/- The reference copies a store. -/
import Derived.Test.YtppmgodahloogaaGreatDoorPr
import Derived.Test.YtppmgodahloogaaGreatDoorPK3
import Derived.Test.YtppmgodahloogaaGreatDoorPNb
import Derived.Test.YtppmgodahloogaaGreatDoorPDr
namespace Go.Proofs.YtppmgodahloogaaGreatDoor
set_option linter.unusedVariables false
set_option linter.unusedSimpArgs false
set_option maxRecDepth 100000
open Go.RowKit
def KpN (N:Nat) (wa wb:World):Prop:=wa.heap.size≤wb.heap.size∧∀k,N≤k→k<wa.heap.size→wb.heap[k]?=wa.heap[k]?
theorem kpn_bel {N:Nat} {wa wb:World} (h:Bel wa wb):KpN N wa wb:=⟨h.size,fun k _ hl=>Below.block h k hl⟩
theorem KpN.obj {N g:Nat} {wa wb:World} {o:Obj} (h:KpN N wa wb) (hN:N≤g) (hg:wa.heap[g]?=some o):wb.heap[g]?=some o:=(h.2 g hN (Array.getElem?_eq_some_iff.1 hg).1).trans hg
theorem OwnD.kpn {N:Nat} {wa wb:World} {E:TypeId} {k:Nat} {v:Value} {L:List Nat} {ds:List (List Dat)} (h:OwnD wa E k v L ds) (hk:KpN N wa wb) (hl:∀q,Blk v L q→N≤q):OwnD wb E k v L ds:=h.keep hk.1 fun q hq=>hk.2 q (hl q hq) (h.lt q hq)
theorem grown_bel {wm wq wz:World} {r:Option Nat} (h:wm.grownBy wq r) (k:Bel wq wz):wm.grownBy wz r :=
 ⟨k.os.trans h.os,k.tape.trans h.tape,k.output.trans h.output,Nat.le_trans h.size k.size,fun i hi hr=>(Below.block k i (Nat.lt_of_lt_of_le hi h.size)).trans (h.block i hi hr)⟩
theorem lit_next {w wx:World} {N b q r:Nat} {v0 v1 v2 v3 v4 v5 v6 v7 v8 v9 v10 v11 v12 s0 s1 s2 s3 s4 s5 s6 s7 s8 s9 s10 s11 s12:Value} {l:List Ent} (h:ClF w N wx b q r v0 v1 v2 v3 v4 v5 v6 v7 v8 v9 v10 v11 v12 s0 s1 s2 s3 s4 s5 s6 s7 s8 s9 s10 s11 s12 l) :
  ClF w N ((wx.setCell ⟨b,2,none⟩ (.slice (some ⟨wx.heap.size,0,none⟩) 0 0)).alloc (.cells #[] 89)) b q r v0 v1 (.slice (some ⟨wx.heap.size,0,none⟩) 0 0) v3 v4 v5 v6 v7 v8 v9 v10 v11 v12 s0 s1 s2 s3 s4 s5 s6 s7 s8 s9 s10 s11 s12 (l++[⟨89,5,.slice (some ⟨wx.heap.size,0,none⟩) 0 0,[],[]⟩]):=by
 have hl:Blk (.slice (some ⟨wx.heap.size,0,none⟩) 0 0) []=fun b=>wx.heap.size=b:=by
  funext b
  simp[Blk,Value.ownBlock]
 have hb:=h.cl.box.1
 have hz:(wx.setCell ⟨b,2,none⟩ (.slice (some ⟨wx.heap.size,0,none⟩) 0 0)).heap.size=wx.heap.size:=by simp
 have h1:ClF w N (wx.setCell ⟨b,2,none⟩ (.slice (some ⟨wx.heap.size,0,none⟩) 0 0)) b q r v0 v1 (.slice (some ⟨wx.heap.size,0,none⟩) 0 0) v3 v4 v5 v6 v7 v8 v9 v10 v11 v12 s0 s1 s2 s3 s4 s5 s6 s7 s8 s9 s10 s11 s12 l :=
  ⟨⟨h.cl.box.put2 _,h.cl.ents.far h.cl.low.2.1 2 _,Below.setCell h.cl.bel h.cl.low.1 _,h.cl.low.1,h.cl.low.2.1,by rw[hz];exact h.cl.low.2.2⟩,h.sb.far 2 _ (fun e=>h.ne.1 e.symm),h.rb.far 2 _ (fun e=>h.ne.2.1 e.symm),h.ne⟩
 have ho:=OwnD.lit0 (wx.setCell ⟨b,2,none⟩ (.slice (some ⟨wx.heap.size,0,none⟩) 0 0)) 89 5
 rw[hz]at ho
 have hbl:Bel (wx.setCell ⟨b,2,none⟩ (.slice (some ⟨wx.heap.size,0,none⟩) 0 0)) ((wx.setCell ⟨b,2,none⟩ (.slice (some ⟨wx.heap.size,0,none⟩) 0 0)).alloc (.cells #[] 89)):=bl
 have h2:=h1.on hbl
 exact⟨⟨h2.cl.box,h1.cl.ents.snoc hbl (e:=⟨89,5,.slice (some ⟨wx.heap.size,0,none⟩) 0 0,[],[]⟩) ho h1.cl.low.2.2 (fun x hx=>by rw[hl]at hx;omega),h2.cl.bel,h2.cl.low⟩,h2.sb,h2.rb,h2.ne⟩
set_option maxHeartbeats 8000000 in
theorem specClone_any:CloneC 21:=by
 intro x0 x1 x2 x3 x4 x5 x6 x7 x8 x9 x10 x11 x12 S w vs hv hwt
 obtain⟨A0,c0,A1,c1,A2,c2,A3,c3,A6,c6,A7,c7,A8,c8,rfl,g0,g1,g2,g3,g4,g5,g6,g7,g8,-,g10,g11,g12⟩:=TStore.vals hv
 have HR0:=hide g0
 have hl0:=g0.1
 have hm0:=g0.2.1
 simp only[List.length_map]at hl0
 unfold maxLen at hm0
 have HR1:=hide g1
 have hl1:=g1.1
 have hm1:=g1.2.1
 simp only[List.length_map]at hl1
 unfold maxLen at hm1
 have HR2:=hide g2
 have hl2:=g2.1
 have hm2:=g2.2.1
 simp only[List.length_map]at hl2
 unfold maxLen at hm2
 have HR3:=hide g3
 have hl3:=g3.1
 have hm3:=g3.2.1
 simp only[List.length_map]at hl3
 unfold maxLen at hm3
 have HR6:=hide g6
 have hl6:=g6.1
 have hm6:=g6.2.1
 simp only[List.length_map]at hl6
 unfold maxLen at hm6
 have HR7:=hide g7
 have hl7:=g7.1
 have hm7:=g7.2.1
 simp only[List.length_map]at hl7
 unfold maxLen at hm7
 have HR8:=hide g8
 have hl8:=g8.1
 have hm8:=g8.2.1
 simp only[List.length_map]at hl8
 unfold maxLen at hm8
 rw[TStore.D_mk]at hwt
 simp only[Dat.wtL,Dat.wt,List.length_map]at hwt
 have hx0:x0.length≤1048576:=by omega
 have hx1:x1.length≤1048576:=by omega
 have hx2:x2.length≤1048576:=by omega
 have hx3:x3.length≤1048576:=by omega
 have hx6:x6.length≤1048576:=by omega
 have hx7:x7.length≤1048576:=by omega
 have hx8:x8.length≤1048576:=by omega
 have HFR:=hide (show ∀(k:Nat) (h:k<x1.length),x1[k].fl.length≤1048576 from fun k h=>by have:=wt_recs x1 k h;omega)
 have HFO:=hide (show ∀(k:Nat) (h:k<x2.length),x2[k].its.length+x2[k].kys.length≤1048576 from fun k h=>by have:=wt_objs x2 k h;omega)
 clear hwt hv g0 g1 g2 g3 g6 g7 g8
 obtain⟨is,his,zs0,zs1,zs2⟩:=info_parts infoStr
 obtain⟨iv,hiv,zv0,zv1,zv2⟩:=info_parts infoVal
 obtain⟨ia,hia,za0,za1,za2⟩:=info_parts infoAct
 obtain⟨io,hio,zo0,zo1,zo2⟩:=info_parts infoObj
 go_enter Tryz.func21,Tryz.ntmps21
 go_upto_region 2 with (fail)
 refine wp_named2 fun w2 hw2=>?_
 replace hw2:((w.alloc (.cells #[.slice A0 x0.length c0,.slice A1 x1.length c1,.slice A2 x2.length c2,.slice A3 x3.length c3,.string x4,.int .i64 x5,.slice A6 x6.length c6,.slice A7 x7.length c7,.slice A8 x8.length c8,.bool x9,.int .i64 x10,.int .i64 x11,.int .i64 x12] 40)).alloc (.cells #[.slice none 0 0,.slice none 0 0,.slice none 0 0,.slice none 0 0,.string ByteArray.empty,.int .i64 0,.slice none 0 0,.slice none 0 0,.slice none 0 0,.bool false,.int .i64 0,.int .i64 0,.int .i64 0] 40)).alloc (.cells #[.slice A0 x0.length c0,.slice A1 x1.length c1,.slice A2 x2.length c2,.slice A3 x3.length c3,.string x4,.int .i64 x5,.slice A6 x6.length c6,.slice A7 x7.length c7,.slice A8 x8.length c8,.bool x9,.int .i64 x10,.int .i64 x11,.int .i64 x12] 40)=w2:=hw2
 have hb2:Bel w w2:=by rw[←hw2];exact bl
 have hz2:w2.heap.size=w.heap.size+3:=by rw[←hw2];simp
 have SQ:SB w2 w.heap.size (.slice A0 x0.length c0) (.slice A1 x1.length c1) (.slice A2 x2.length c2) (.slice A3 x3.length c3) (.string x4) (.int .i64 x5) (.slice A6 x6.length c6) (.slice A7 x7.length c7) (.slice A8 x8.length c8) (.bool x9) (.int .i64 x10) (.int .i64 x11) (.int .i64 x12):=by rw[←hw2];first | exact (SB.new w 40).on bl | trace_state
 have SR:SB w2 (w.heap.size+1) (.slice none 0 0) (.slice none 0 0) (.slice none 0 0) (.slice none 0 0) (.string ByteArray.empty) (.int .i64 0) (.slice none 0 0) (.slice none 0 0) (.slice none 0 0) (.bool false) (.int .i64 0) (.int .i64 0) (.int .i64 0):=by rw[←hw2];first | (have h:=(SB.new (w.alloc (.cells #[.slice A0 x0.length c0,.slice A1 x1.length c1,.slice A2 x2.length c2,.slice A3 x3.length c3,.string x4,.int .i64 x5,.slice A6 x6.length c6,.slice A7 x7.length c7,.slice A8 x8.length c8,.bool x9,.int .i64 x10,.int .i64 x11,.int .i64 x12] 40)) 40 (v0:=.slice none 0 0) (v1:=.slice none 0 0) (v2:=.slice none 0 0) (v3:=.slice none 0 0) (v4:=.string ByteArray.empty) (v5:=.int .i64 0) (v6:=.slice none 0 0) (v7:=.slice none 0 0) (v8:=.slice none 0 0) (v9:=.bool false) (v10:=.int .i64 0) (v11:=.int .i64 0) (v12:=.int .i64 0));rw[World.size_alloc]at h;exact h.on bl) | trace_state
 have SBB:SB w2 (w.heap.size+2) (.slice A0 x0.length c0) (.slice A1 x1.length c1) (.slice A2 x2.length c2) (.slice A3 x3.length c3) (.string x4) (.int .i64 x5) (.slice A6 x6.length c6) (.slice A7 x7.length c7) (.slice A8 x8.length c8) (.bool x9) (.int .i64 x10) (.int .i64 x11) (.int .i64 x12):=by rw[←hw2];first | (have h:=SB.new ((w.alloc (.cells #[.slice A0 x0.length c0,.slice A1 x1.length c1,.slice A2 x2.length c2,.slice A3 x3.length c3,.string x4,.int .i64 x5,.slice A6 x6.length c6,.slice A7 x7.length c7,.slice A8 x8.length c8,.bool x9,.int .i64 x10,.int .i64 x11,.int .i64 x12] 40)).alloc (.cells #[.slice none 0 0,.slice none 0 0,.slice none 0 0,.slice none 0 0,.string ByteArray.empty,.int .i64 0,.slice none 0 0,.slice none 0 0,.slice none 0 0,.bool false,.int .i64 0,.int .i64 0,.int .i64 0] 40)) 40 (v0:=.slice A0 x0.length c0) (v1:=.slice A1 x1.length c1) (v2:=.slice A2 x2.length c2) (v3:=.slice A3 x3.length c3) (v4:=.string x4) (v5:=.int .i64 x5) (v6:=.slice A6 x6.length c6) (v7:=.slice A7 x7.length c7) (v8:=.slice A8 x8.length c8) (v9:=.bool x9) (v10:=.int .i64 x10) (v11:=.int .i64 x11) (v12:=.int .i64 x12);simp only[World.size_alloc]at h;exact h) | trace_state
 have T2:=hide (show ClF w (w.heap.size+3) w2 (w.heap.size+2) w.heap.size (w.heap.size+1) (.slice A0 x0.length c0) (.slice A1 x1.length c1) (.slice A2 x2.length c2) (.slice A3 x3.length c3) (.string x4) (.int .i64 x5) (.slice A6 x6.length c6) (.slice A7 x7.length c7) (.slice A8 x8.length c8) (.bool x9) (.int .i64 x10) (.int .i64 x11) (.int .i64 x12) (.slice A0 x0.length c0) (.slice A1 x1.length c1) (.slice A2 x2.length c2) (.slice A3 x3.length c3) (.string x4) (.int .i64 x5) (.slice A6 x6.length c6) (.slice A7 x7.length c7) (.slice A8 x8.length c8) (.bool x9) (.int .i64 x10) (.int .i64 x11) (.int .i64 x12) []from⟨⟨SBB,Ents.nil _ _,hb2,by omega,by omega,by omega⟩,SQ,SR,by omega,by omega,by omega,by omega,by omega⟩)
 clear hw2 hb2 hz2 SQ SR SBB
 obtain⟨hlq,hfq,kq_0,kq_1,kq_2,kq_3,kq_4,kq_5,kq_6,kq_7,kq_8,kq_9,kq_10,kq_11,kq_12⟩:=T2.out.sb
 obtain⟨hlb,hfb,kb_0,kb_1,kb_2,kb_3,kb_4,kb_5,kb_6,kb_7,kb_8,kb_9,kb_10,kb_11,kb_12⟩:=T2.out.cl.box
 have HO5:=hide (OwnD.lit0 w2 9 1)
 obtain⟨nw,hsr⟩:=Row.src (strs_flat x0) (Row.bel (Bel.trans T2.out.cl.bel (show Bel w2 (w2.alloc (.cells #[] 9))from bl)) HR0.out)
 rw[List.length_map]at hsr
 have HSR:=hide hsr
 clear hsr
 go_wp2_with (at_builtin;refine wpList_append_D rfl (.tmp 7) (.tmp 9) 22 rfl 9 is (.string ByteArray.empty) 1 16 Tryz.underlying22 his zs0 zs1 zs2 (by decide) (by decide) HO5.out HSR.out c0 rfl rfl (fun b _ h=>by cases h) (by simp only[List.length_nil];omega) (by simp only[List.length_nil];unfold maxLen;omega) ?_)
 intro v9 w9 hO9 hg9 hw9
 have HQ:=hide (copy_bel hg9 hw9)
 have HO9:=hide (show OwnD w9 9 1 v9 [] (x0.map (fun x=>[Dat.str x]))from hO9)
 clear hO9 hg9 hw9 HO5 HSR
 clear hlq hfq kq_0 kq_1 kq_2 kq_3 kq_4 kq_5 kq_6 kq_7 kq_8 kq_9 kq_10 kq_11 kq_12 hlb hfb kb_0 kb_1 kb_2 kb_3 kb_4 kb_5 kb_6 kb_7 kb_8 kb_9 kb_10 kb_11 kb_12
 obtain⟨B0,m0,d0,rfl⟩:∃A9 n9 c9,v9=.slice A9 n9 c9:=by obtain⟨A9,c9,L9,hv9,-⟩:=HO9.out.ownRow;exact⟨_,_,_,hv9⟩
 have TT9:=hide (T2.out.on HQ.out.1)
 obtain⟨hlq9,hfq9,kq9_0,kq9_1,kq9_2,kq9_3,kq9_4,kq9_5,kq9_6,kq9_7,kq9_8,kq9_9,kq9_10,kq9_11,kq9_12⟩:=TT9.out.sb
 obtain⟨hlb9,hfb9,kb9_0,kb9_1,kb9_2,kb9_3,kb9_4,kb9_5,kb9_6,kb9_7,kb9_8,kb9_9,kb9_10,kb9_11,kb9_12⟩:=TT9.out.cl.box
 go_upto_region 3 with (fail)
 refine wp_named2 fun wq3 hwq3=>?_
 have T3:=hide (show ClF w (w.heap.size+3) wq3 (w.heap.size+2) w.heap.size (w.heap.size+1) (.slice B0 m0 d0) (.slice A1 x1.length c1) (.slice A2 x2.length c2) (.slice A3 x3.length c3) (.string x4) (.int .i64 x5) (.slice A6 x6.length c6) (.slice A7 x7.length c7) (.slice A8 x8.length c8) (.bool x9) (.int .i64 x10) (.int .i64 x11) (.int .i64 x12) (.slice A0 x0.length c0) (.slice A1 x1.length c1) (.slice A2 x2.length c2) (.slice A3 x3.length c3) (.string x4) (.int .i64 x5) (.slice A6 x6.length c6) (.slice A7 x7.length c7) (.slice A8 x8.length c8) (.bool x9) (.int .i64 x10) (.int .i64 x11) (.int .i64 x12) [⟨9,1,(.slice B0 m0 d0),[],x0.map (fun x=>[Dat.str x])⟩]from by rw[←hwq3];exact T2.out.next HQ.out.1 HO9.out HQ.out.2 0 (TT9.out.cl.box.put0 _))
 clear hlq9 hfq9 kq9_0 kq9_1 kq9_2 kq9_3 kq9_4 kq9_5 kq9_6 kq9_7 kq9_8 kq9_9 kq9_10 kq9_11 kq9_12 hlb9 hfb9 kb9_0 kb9_1 kb9_2 kb9_3 kb9_4 kb9_5 kb9_6 kb9_7 kb9_8 kb9_9 kb9_10 kb9_11 kb9_12
 clear hwq3 HQ HO9 TT9 T2
 obtain⟨hlq,hfq,kq_0,kq_1,kq_2,kq_3,kq_4,kq_5,kq_6,kq_7,kq_8,kq_9,kq_10,kq_11,kq_12⟩:=T3.out.sb
 obtain⟨hlb,hfb,kb_0,kb_1,kb_2,kb_3,kb_4,kb_5,kb_6,kb_7,kb_8,kb_9,kb_10,kb_11,kb_12⟩:=T3.out.cl.box
 go_upto_region 4 with (go_at_call 53;refine (specRecs_any x1 S _ _ _ (Row.bel T3.out.cl.bel HR1.out) hx1 HFR.out).mono ?_;rintro e w9 ⟨v9,L1,rfl,hO9,hn9,hb9⟩;have HO9:=hide hO9;have HN9:=hide hn9;have HB9:=hide hb9;clear hO9 hn9 hb9;obtain⟨B1,m1,d1,rfl⟩:∃A9 n9 c9,v9=.slice A9 n9 c9:=(by obtain⟨A9,c9,L9,hv9,-⟩:=HO9.out.ownRow;exact⟨_,_,_,hv9⟩);have TT9:=hide (T3.out.on HB9.out);obtain⟨hlb9,hfb9,kb9_0,kb9_1,kb9_2,kb9_3,kb9_4,kb9_5,kb9_6,kb9_7,kb9_8,kb9_9,kb9_10,kb9_11,kb9_12⟩:=TT9.out.cl.box)
 clear hlq hfq kq_0 kq_1 kq_2 kq_3 kq_4 kq_5 kq_6 kq_7 kq_8 kq_9 kq_10 kq_11 kq_12 hlb hfb kb_0 kb_1 kb_2 kb_3 kb_4 kb_5 kb_6 kb_7 kb_8 kb_9 kb_10 kb_11 kb_12
 refine wp_named2 fun wq4 hwq4=>?_
 have T4:=hide (show ClF w (w.heap.size+3) wq4 (w.heap.size+2) w.heap.size (w.heap.size+1) (.slice B0 m0 d0) (.slice B1 m1 d1) (.slice A2 x2.length c2) (.slice A3 x3.length c3) (.string x4) (.int .i64 x5) (.slice A6 x6.length c6) (.slice A7 x7.length c7) (.slice A8 x8.length c8) (.bool x9) (.int .i64 x10) (.int .i64 x11) (.int .i64 x12) (.slice A0 x0.length c0) (.slice A1 x1.length c1) (.slice A2 x2.length c2) (.slice A3 x3.length c3) (.string x4) (.int .i64 x5) (.slice A6 x6.length c6) (.slice A7 x7.length c7) (.slice A8 x8.length c8) (.bool x9) (.int .i64 x10) (.int .i64 x11) (.int .i64 x12) [⟨9,1,(.slice B0 m0 d0),[],x0.map (fun x=>[Dat.str x])⟩,⟨92,3,(.slice B1 m1 d1),L1,x1.map TRecordType.D⟩]from by rw[←hwq4];exact T3.out.next HB9.out HO9.out HN9.out 1 (TT9.out.cl.box.put1 _))
 clear hwq4 HB9 HO9 HN9 TT9 T3 hlb9 hfb9 kb9_0 kb9_1 kb9_2 kb9_3 kb9_4 kb9_5 kb9_6 kb9_7 kb9_8 kb9_9 kb9_10 kb9_11 kb9_12
 obtain⟨hlq,hfq,kq_0,kq_1,kq_2,kq_3,kq_4,kq_5,kq_6,kq_7,kq_8,kq_9,kq_10,kq_11,kq_12⟩:=T4.out.sb
 obtain⟨hlb,hfb,kb_0,kb_1,kb_2,kb_3,kb_4,kb_5,kb_6,kb_7,kb_8,kb_9,kb_10,kb_11,kb_12⟩:=T4.out.cl.box
 go_upto_region 5 with (fail)
 clear hlq hfq kq_0 kq_1 kq_2 kq_3 kq_4 kq_5 kq_6 kq_7 kq_8 kq_9 kq_10 kq_11 kq_12 hlb hfb kb_0 kb_1 kb_2 kb_3 kb_4 kb_5 kb_6 kb_7 kb_8 kb_9 kb_10 kb_11 kb_12
 refine wp_named2 fun wq5 hwq5=>?_
 have T5:=hide (show ClF w (w.heap.size+3) wq5 (w.heap.size+2) w.heap.size (w.heap.size+1) (.slice B0 m0 d0) (.slice B1 m1 d1) (.slice (some ⟨wq4.heap.size,0,none⟩) 0 0) (.slice A3 x3.length c3) (.string x4) (.int .i64 x5) (.slice A6 x6.length c6) (.slice A7 x7.length c7) (.slice A8 x8.length c8) (.bool x9) (.int .i64 x10) (.int .i64 x11) (.int .i64 x12) (.slice A0 x0.length c0) (.slice A1 x1.length c1) (.slice A2 x2.length c2) (.slice A3 x3.length c3) (.string x4) (.int .i64 x5) (.slice A6 x6.length c6) (.slice A7 x7.length c7) (.slice A8 x8.length c8) (.bool x9) (.int .i64 x10) (.int .i64 x11) (.int .i64 x12) [⟨9,1,(.slice B0 m0 d0),[],x0.map (fun x=>[Dat.str x])⟩,⟨92,3,(.slice B1 m1 d1),L1,x1.map TRecordType.D⟩,⟨89,5,(.slice (some ⟨wq4.heap.size,0,none⟩) 0 0),[],[]⟩]from by rw[←hwq5];exact lit_next T4.out)
 clear hwq5 T4
 obtain⟨hlq,hfq,kq_0,kq_1,kq_2,kq_3,kq_4,kq_5,kq_6,kq_7,kq_8,kq_9,kq_10,kq_11,kq_12⟩:=T5.out.sb
 obtain⟨hlb,hfb,kb_0,kb_1,kb_2,kb_3,kb_4,kb_5,kb_6,kb_7,kb_8,kb_9,kb_10,kb_11,kb_12⟩:=T5.out.cl.box
 go_wp2_with (fail)
 clear hlq hfq kq_0 kq_1 kq_2 kq_3 kq_4 kq_5 kq_6 kq_7 kq_8 kq_9 kq_10 kq_11 kq_12 hlb hfb kb_0 kb_1 kb_2 kb_3 kb_4 kb_5 kb_6 kb_7 kb_8 kb_9 kb_10 kb_11 kb_12
 go_loopw [4] (fun iv wr=>∃(i:Nat) (v:Value) (L:List Nat),iv=.int .i64 i∧i≤x2.length∧Hid (ClF w (w.heap.size+3) wr (w.heap.size+2) w.heap.size (w.heap.size+1) (.slice B0 m0 d0) (.slice B1 m1 d1) v (.slice A3 x3.length c3) (.string x4) (.int .i64 x5) (.slice A6 x6.length c6) (.slice A7 x7.length c7) (.slice A8 x8.length c8) (.bool x9) (.int .i64 x10) (.int .i64 x11) (.int .i64 x12) (.slice A0 x0.length c0) (.slice A1 x1.length c1) (.slice A2 x2.length c2) (.slice A3 x3.length c3) (.string x4) (.int .i64 x5) (.slice A6 x6.length c6) (.slice A7 x7.length c7) (.slice A8 x8.length c8) (.bool x9) (.int .i64 x10) (.int .i64 x11) (.int .i64 x12) [⟨9,1,(.slice B0 m0 d0),[],x0.map (fun x=>[Dat.str x])⟩,⟨92,3,(.slice B1 m1 d1),L1,x1.map TRecordType.D⟩,⟨89,5,v,L,(x2.take i).map TObject.D⟩])) (fun iv _=>x2.length - (intOf iv).toNat)
 case atStart=>exact⟨0,_,[],rfl,Nat.zero_le _,hide (by have h:=T5.out;simpa only[List.take_zero,List.map_nil]using h)⟩
 case round =>
  obtain⟨i,v,L,rfl,hi,HT⟩:=hrel
  clear T5
  by_cases h:i<x2.length
  ·
   skip
   have hdc:decide ((i:Int)<(x2.length:Int))=true:=by simp;omega
   have hdn:decide (i<x2.length)=true:=by simp[h]
   have hbw:=HT.out.cl.bel
   have hi0:(0:Int)≤(i:Int):=by omega
   have hi1:(i:Int)<(x2.length:Int):=by omega
   (obtain⟨b1,o1,x1_0,x1_1,x1_2,x1_3,x1_4,A1_3,C1_3,A1_4,C1_4,hA1,hS1,hl1,hx1,hv1,g1_0,g1_1,g1_2,g1_3,g1_4,c1_0,c1_1,c1_2,c1_3,c1_4⟩:=TObject.at HR2.out i h;subst hA1;have HV1:=hide (Dat.HoldVals.bel hbw hv1);have hh1:=hbw.box b1 hl1;have hw1:=Nat.lt_of_lt_of_le hl1 (Bel.size hbw);replace c1_0:=(hh1 _).trans c1_0;replace c1_1:=(hh1 _).trans c1_1;replace c1_2:=(hh1 _).trans c1_2;replace c1_3:=(hh1 _).trans c1_3;replace c1_4:=(hh1 _).trans c1_4;have HX1:=hide hx1;have GR1_3:=hide g1_3;have GR1_4:=hide g1_4;clear hh1 hv1 hx1 hS1 g1_3 g1_4)
   have hfo:=HFO.out i h
   rw[HX1.out]at hfo
   simp only[TObject.its,TObject.kys]at hfo
   obtain⟨hlq,hfq,kq_0,kq_1,kq_2,kq_3,kq_4,kq_5,kq_6,kq_7,kq_8,kq_9,kq_10,kq_11,kq_12⟩:=HT.out.sb
   obtain⟨hlb,hfb,kb_0,kb_1,kb_2,kb_3,kb_4,kb_5,kb_6,kb_7,kb_8,kb_9,kb_10,kb_11,kb_12⟩:=HT.out.cl.box
   go_upto_region 9 with (fail)
   clear hlq hfq kq_0 kq_1 kq_2 kq_3 kq_4 kq_5 kq_6 kq_7 kq_8 kq_9 kq_10 kq_11 kq_12 hlb hfb kb_0 kb_1 kb_2 kb_3 kb_4 kb_5 kb_6 kb_7 kb_8 kb_9 kb_10 kb_11 kb_12
   rename World=>wL
   refine wp_named2 fun wr hwr=>?_
   have hbA:Bel wL wr:=by rw[←hwr];exact bl
   have OA:=hide (show OB wr wL.heap.size (.int .i64 x1_0) (.int .i64 x1_1) (.int .i64 x1_2) (.slice A1_3 x1_3.length C1_3) (.slice A1_4 x1_4.length C1_4)from by rw[←hwr];first | exact OB.new _ _ | exact (((((OB.new _ _).put0 _).put1 _).put2 _).put3 _).put4 _)
   have TA:=hide (HT.out.on hbA)
   have hzo:wL.heap.size<wr.heap.size:=OA.out.1
   clear hwr
   refine wp_region_factsU (m:=18) (p:=16) (fun j=>match j with | 13=>[10] | _=>[]) (fun j vf wq=>match j with | 0=>((vf 0)=.pointer (some ⟨(w.heap.size+2),2,none⟩)) | 1=>((vf 1)=v) | 2=>((vf 2)=.pointer (some ⟨wL.heap.size,0,none⟩)) | 3=>((vf 3)=.int .i64 x1_0) | 4=>((vf 4)=.pointer (some ⟨wL.heap.size,1,none⟩)) | 5=>((vf 5)=.int .i64 x1_1) | 6=>((vf 6)=.pointer (some ⟨wL.heap.size,2,none⟩)) | 7=>((vf 7)=.int .i64 x1_2) | 8=>((vf 8)=.pointer (some ⟨wL.heap.size,3,none⟩)) | 9=>((vf 9)=.slice A1_3 x1_3.length C1_3) | 10=>(∃(AI:Option Addr) (dI:Nat),(vf 10)=.slice AI (List.length x1_3) dI∧OwnD wq 43 6 (.slice AI (List.length x1_3) dI) [] (x1_3.map TValue.D)∧(∀q,Blk (.slice AI (List.length x1_3) dI) [] q→wr.heap.size≤q)) | 11=>((vf 11)=.pointer (some ⟨wL.heap.size,4,none⟩)) | 12=>((vf 12)=.slice A1_4 x1_4.length C1_4) | 13=>(∃(AJ:Option Addr) (dJ:Nat),(vf 13)=.slice AJ (List.length x1_4) dJ∧OwnD wq 43 6 (.slice AJ (List.length x1_4) dJ) [] (x1_4.map TValue.D)∧(∀q,Blk (.slice AJ (List.length x1_4) dJ) [] q→wr.heap.size≤q∧¬Blk (vf 10) [] q)) | 14=>(∃(AI:Option Addr) (dI:Nat) (AJ:Option Addr) (dJ:Nat),(vf 14)=.agg #[.int .i64 x1_0,.int .i64 x1_1,.int .i64 x1_2,.slice AI (List.length x1_3) dI,.slice AJ (List.length x1_4) dJ]∧OwnD wq 43 6 (.slice AI (List.length x1_3) dI) [] (x1_3.map TValue.D)∧OwnD wq 43 6 (.slice AJ (List.length x1_4) dJ) [] (x1_4.map TValue.D)∧(∀q,Blk (.slice AI (List.length x1_3) dI) [] q→wr.heap.size≤q)∧(∀q,Blk (.slice AJ (List.length x1_4) dJ) [] q→wr.heap.size≤q∧¬Blk (.slice AI (List.length x1_3) dI) [] q)) | 15=>(∃(AI:Option Addr) (dI:Nat) (AJ:Option Addr) (dJ:Nat) (g:Nat),(vf 15)=.slice (some ⟨g,0,none⟩) 1 1∧wr.heap.size≤g∧wq.heap[g]?=some (.cells #[.int .i64 x1_0,.int .i64 x1_1,.int .i64 x1_2,.slice AI (List.length x1_3) dI,.slice AJ (List.length x1_4) dJ] 89)∧OwnD wq 43 6 (.slice AI (List.length x1_3) dI) [] (x1_3.map TValue.D)∧OwnD wq 43 6 (.slice AJ (List.length x1_4) dJ) [] (x1_4.map TValue.D)∧(∀q,Blk (.slice AI (List.length x1_3) dI) [] q→wr.heap.size≤q)∧(∀q,Blk (.slice AJ (List.length x1_4) dJ) [] q→wr.heap.size≤q∧¬Blk (.slice AI (List.length x1_3) dI) [] q)) | 16=>(∃M:List Nat,OwnD wq 89 5 (vf 16) (L++M) ((x2.take (i+1)).map TObject.D)∧∀q,Blk (vf 16) (L++M) q→Blk v L q∨wr.heap.size≤q) | 17=>((vf 17)=.pointer (some ⟨(w.heap.size+2),2,none⟩)) | _=>True) (fun wa wb=>Bel wa wb) (fun wa wb=>KpN wr.heap.size wa wb) (fun wq=>ClF w (w.heap.size+3) wq (w.heap.size+2) w.heap.size (w.heap.size+1) (.slice B0 m0 d0) (.slice B1 m1 d1) v (.slice A3 x3.length c3) (.string x4) (.int .i64 x5) (.slice A6 x6.length c6) (.slice A7 x7.length c7) (.slice A8 x8.length c8) (.bool x9) (.int .i64 x10) (.int .i64 x11) (.int .i64 x12) (.slice A0 x0.length c0) (.slice A1 x1.length c1) (.slice (some ⟨b1,o1,none⟩) x2.length c2) (.slice A3 x3.length c3) (.string x4) (.int .i64 x5) (.slice A6 x6.length c6) (.slice A7 x7.length c7) (.slice A8 x8.length c8) (.bool x9) (.int .i64 x10) (.int .i64 x11) (.int .i64 x12) [⟨9,1,(.slice B0 m0 d0),[],x0.map (fun x=>[Dat.str x])⟩,⟨92,3,(.slice B1 m1 d1),L1,x1.map TRecordType.D⟩,⟨89,5,v,L,(x2.take i).map TObject.D⟩]∧OB wq wL.heap.size (.int .i64 x1_0) (.int .i64 x1_1) (.int .i64 x1_2) (.slice A1_3 x1_3.length C1_3) (.slice A1_4 x1_4.length C1_4)∧Bel wr wq) (fun wq=>∃wm:World,Bel wr wm∧wm.grownBy wq v.ownBlock) [(0,some 30),(1,some 31),(2,some 32),(3,some 33),(4,some 34),(5,some 35),(6,some 36),(7,some 37),(8,some 38),(9,some 39),(10,some 40),(11,some 41),(12,some 42),(13,some 43),(14,some 44),(15,some 45),(16,some 46),(17,some 47),(18,none)] rfl (by kernel_rfl) (by kernel_rfl) (by kernel_rfl) (by decide) ?hG ?hR ?hR2 ?hG0 ?hG1 rfl rfl ?hstep ?hp ?hlast
   case hG=>exact⟨TA.out.on bl,OA.out.on bl,bl⟩
   case hG0=>exact fun wa wb hk hg=>⟨hg.1.on hk,hg.2.1.on hk,hg.2.2.trans hk⟩
   case hG1=>exact fun wa wb hk hg=>by obtain⟨wm,h3,h4⟩:=hg;exact⟨wm,h3,grown_bel h4 hk⟩
   case hR =>
    intro j vf wa wb hk hv
    match j,hv with
    | 0,hv=>exact hv
    | 1,hv=>exact hv
    | 2,hv=>exact hv
    | 3,hv=>exact hv
    | 4,hv=>exact hv
    | 5,hv=>exact hv
    | 6,hv=>exact hv
    | 7,hv=>exact hv
    | 8,hv=>exact hv
    | 9,hv=>exact hv
    | 10,hv=>exact (by obtain⟨AI,dI,e,h1,h2⟩:=hv;exact⟨AI,dI,e,h1.kpn (kpn_bel hk) h2,h2⟩)
    | 11,hv=>exact hv
    | 12,hv=>exact hv
    | 13,hv=>exact (by obtain⟨AJ,dJ,e,h1,h2⟩:=hv;exact⟨AJ,dJ,e,h1.kpn (kpn_bel hk) (fun q hq=>(h2 q hq).1),h2⟩)
    | 14,hv=>exact (by obtain⟨AI,dI,AJ,dJ,e,h1,h2,h3,h4⟩:=hv;exact⟨AI,dI,AJ,dJ,e,h1.kpn (kpn_bel hk) h3,h2.kpn (kpn_bel hk) (fun q hq=>(h4 q hq).1),h3,h4⟩)
    | 15,hv=>exact (by obtain⟨AI,dI,AJ,dJ,g,e,q1,q2,h1,h2,h3,h4⟩:=hv;exact⟨AI,dI,AJ,dJ,g,e,q1,KpN.obj (kpn_bel hk) q1 q2,h1.kpn (kpn_bel hk) h3,h2.kpn (kpn_bel hk) (fun q hq=>(h4 q hq).1),h3,h4⟩)
    | 16,hv=>exact (by obtain⟨M,h1,h2⟩:=hv;exact⟨M,h1.bel hk,h2⟩)
    | 17,hv=>exact hv
    | n+18,hv=>exact trivial
   case hR2 =>
    intro j vf wa wb hjp hk hv
    match j,hv with
    | 0,hv=>exact hv
    | 1,hv=>exact hv
    | 2,hv=>exact hv
    | 3,hv=>exact hv
    | 4,hv=>exact hv
    | 5,hv=>exact hv
    | 6,hv=>exact hv
    | 7,hv=>exact hv
    | 8,hv=>exact hv
    | 9,hv=>exact hv
    | 10,hv=>exact (by obtain⟨AI,dI,e,h1,h2⟩:=hv;exact⟨AI,dI,e,h1.kpn hk h2,h2⟩)
    | 11,hv=>exact hv
    | 12,hv=>exact hv
    | 13,hv=>exact (by obtain⟨AJ,dJ,e,h1,h2⟩:=hv;exact⟨AJ,dJ,e,h1.kpn hk (fun q hq=>(h2 q hq).1),h2⟩)
    | 14,hv=>exact (by obtain⟨AI,dI,AJ,dJ,e,h1,h2,h3,h4⟩:=hv;exact⟨AI,dI,AJ,dJ,e,h1.kpn hk h3,h2.kpn hk (fun q hq=>(h4 q hq).1),h3,h4⟩)
    | 15,hv=>exact (by obtain⟨AI,dI,AJ,dJ,g,e,q1,q2,h1,h2,h3,h4⟩:=hv;exact⟨AI,dI,AJ,dJ,g,e,q1,KpN.obj hk q1 q2,h1.kpn hk h3,h2.kpn hk (fun q hq=>(h4 q hq).1),h3,h4⟩)
    | 17,hv=>exact hv
    | 16,hv=>exact absurd rfl hjp
    | n+18,hv=>exact trivial
   case hstep =>
    simp only[putP,Act.put,List.setIfInBounds_toArray,List.set_cons_zero,List.set_cons_succ,List.getElem_toArray,List.getElem_cons_zero,List.getElem_cons_succ]
    refine (stepsU_cons (i:=0) (i2:=1) (o:=_) rfl ?s0 (stepsU_cons (i:=1) (i2:=2) (o:=_) rfl ?s1 (stepsU_cons (i:=2) (i2:=3) (o:=_) rfl ?s2 (stepsU_cons (i:=3) (i2:=4) (o:=_) rfl ?s3 (stepsU_cons (i:=4) (i2:=5) (o:=_) rfl ?s4 (stepsU_cons (i:=5) (i2:=6) (o:=_) rfl ?s5 (stepsU_cons (i:=6) (i2:=7) (o:=_) rfl ?s6 (stepsU_cons (i:=7) (i2:=8) (o:=_) rfl ?s7 (stepsU_cons (i:=8) (i2:=9) (o:=_) rfl ?s8 (stepsU_cons (i:=9) (i2:=10) (o:=_) rfl ?s9 (stepsU_cons (i:=10) (i2:=11) (o:=_) rfl ?s10 (stepsU_cons (i:=11) (i2:=12) (o:=_) rfl ?s11 (stepsU_cons (i:=12) (i2:=13) (o:=_) rfl ?s12 (stepsU_cons (i:=13) (i2:=14) (o:=_) rfl ?s13 (stepsU_cons (i:=14) (i2:=15) (o:=_) rfl ?s14 (stepsU_cons (i:=15) (i2:=16) (o:=_) rfl ?s15 (stepsU_skip (p:=16) (p2:=17) (stepsU_cons (i:=17) (i2:=18) (o:=_) rfl ?s17 (stepsU_nil (by decide))))))))))))))))))))
    case s0 =>
     exact rk76
    case s2 =>
     exact rk76
    case s4 =>
     exact rk76
    case s6 =>
     exact rk76
    case s8 =>
     exact rk76
    case s11 =>
     exact rk76
    case s17 =>
     exact rk76
    case s1 =>
     intro u wa hG hf K hK
     have g0:=g0_of hG (by kernel_rfl)
     have e0:(u 0)=.pointer (some ⟨(w.heap.size+2),2,none⟩):=fact_ofU hf 0 (by kernel_rfl)
     clear hf
     clear hG
     simp only[Act.put,List.setIfInBounds_toArray,List.set_cons_zero,List.set_cons_succ,List.getElem_toArray,List.getElem_cons_zero,List.getElem_cons_succ]at hK ⊢
     rw[e0]at hK ⊢
     obtain⟨hlb,hfb,kb_0,kb_1,kb_2,kb_3,kb_4,kb_5,kb_6,kb_7,kb_8,kb_9,kb_10,kb_11,kb_12⟩:=g0.1.cl.box
     clear g0
     go_simp
     exact hK.out _ _ (Bel.refl _) rfl
    case s3 =>
     intro u wa hG hf K hK
     have g0:=g0_of hG (by kernel_rfl)
     have e2:(u 2)=.pointer (some ⟨wL.heap.size,0,none⟩):=fact_ofU hf 2 (by kernel_rfl)
     clear hf
     clear hG
     simp only[Act.put,List.setIfInBounds_toArray,List.set_cons_zero,List.set_cons_succ,List.getElem_toArray,List.getElem_cons_zero,List.getElem_cons_succ]at hK ⊢
     rw[e2]at hK ⊢
     obtain⟨hlo,hfo2,q0,q1,q2,q3,q4⟩:=g0.2.1
     clear g0
     go_simp
     exact hK.out _ _ (Bel.refl _) rfl
    case s5 =>
     intro u wa hG hf K hK
     have g0:=g0_of hG (by kernel_rfl)
     have e4:(u 4)=.pointer (some ⟨wL.heap.size,1,none⟩):=fact_ofU hf 4 (by kernel_rfl)
     clear hf
     clear hG
     simp only[Act.put,List.setIfInBounds_toArray,List.set_cons_zero,List.set_cons_succ,List.getElem_toArray,List.getElem_cons_zero,List.getElem_cons_succ]at hK ⊢
     rw[e4]at hK ⊢
     obtain⟨hlo,hfo2,q0,q1,q2,q3,q4⟩:=g0.2.1
     clear g0
     go_simp
     exact hK.out _ _ (Bel.refl _) rfl
    case s7 =>
     intro u wa hG hf K hK
     have g0:=g0_of hG (by kernel_rfl)
     have e6:(u 6)=.pointer (some ⟨wL.heap.size,2,none⟩):=fact_ofU hf 6 (by kernel_rfl)
     clear hf
     clear hG
     simp only[Act.put,List.setIfInBounds_toArray,List.set_cons_zero,List.set_cons_succ,List.getElem_toArray,List.getElem_cons_zero,List.getElem_cons_succ]at hK ⊢
     rw[e6]at hK ⊢
     obtain⟨hlo,hfo2,q0,q1,q2,q3,q4⟩:=g0.2.1
     clear g0
     go_simp
     exact hK.out _ _ (Bel.refl _) rfl
    case s9 =>
     intro u wa hG hf K hK
     have g0:=g0_of hG (by kernel_rfl)
     have e8:(u 8)=.pointer (some ⟨wL.heap.size,3,none⟩):=fact_ofU hf 8 (by kernel_rfl)
     clear hf
     clear hG
     simp only[Act.put,List.setIfInBounds_toArray,List.set_cons_zero,List.set_cons_succ,List.getElem_toArray,List.getElem_cons_zero,List.getElem_cons_succ]at hK ⊢
     rw[e8]at hK ⊢
     obtain⟨hlo,hfo2,q0,q1,q2,q3,q4⟩:=g0.2.1
     clear g0
     go_simp
     exact hK.out _ _ (Bel.refl _) rfl
    case s12 =>
     intro u wa hG hf K hK
     have g0:=g0_of hG (by kernel_rfl)
     have e11:(u 11)=.pointer (some ⟨wL.heap.size,4,none⟩):=fact_ofU hf 11 (by kernel_rfl)
     clear hf
     clear hG
     simp only[Act.put,List.setIfInBounds_toArray,List.set_cons_zero,List.set_cons_succ,List.getElem_toArray,List.getElem_cons_zero,List.getElem_cons_succ]at hK ⊢
     rw[e11]at hK ⊢
     obtain⟨hlo,hfo2,q0,q1,q2,q3,q4⟩:=g0.2.1
     clear g0
     go_simp
     exact hK.out _ _ (Bel.refl _) rfl
    case s10 =>
     intro u wa hG hf K hK
     have g0:=g0_of hG (by kernel_rfl)
     have e9:(u 9)=.slice A1_3 x1_3.length C1_3:=fact_ofU hf 9 (by kernel_rfl)
     clear hf
     clear hG
     simp only[Act.put,List.setIfInBounds_toArray,List.set_cons_zero,List.set_cons_succ,List.getElem_toArray,List.getElem_cons_zero,List.getElem_cons_succ]at hK ⊢
     rw[e9]at hK ⊢
     have hbl9:=g0.1.cl.bel
     have hz9:=Bel.size g0.2.2
     go_simp
     go_at_call 54
     refine (specVals_any x1_3 S _ _ _ (Row.bel hbl9 GR1_3.out) (by omega)).mono ?_
     rintro e w2 ⟨vv,rfl,hO,hn,hb2⟩
     exact rk208
    case s13 =>
     intro u wa hG hf K hK
     have g0:=g0_of hG (by kernel_rfl)
     have e12:(u 12)=.slice A1_4 x1_4.length C1_4:=fact_ofU hf 12 (by kernel_rfl)
     have e10:∃(AI:Option Addr) (dI:Nat),(u 10)=.slice AI (List.length x1_3) dI∧OwnD wa 43 6 (.slice AI (List.length x1_3) dI) [] (x1_3.map TValue.D)∧(∀q,Blk (.slice AI (List.length x1_3) dI) [] q→wr.heap.size≤q):=fact_ofU hf 10 (by kernel_rfl)
     clear hf
     clear hG
     simp only[Act.put,List.setIfInBounds_toArray,List.set_cons_zero,List.set_cons_succ,List.getElem_toArray,List.getElem_cons_zero,List.getElem_cons_succ]at hK ⊢
     rw[e12]at hK ⊢
     obtain⟨AI,dI,e10,hI,hIl⟩:=e10
     rw[e10]at hK ⊢
     have hbl9:=g0.1.cl.bel
     have hz9:=Bel.size g0.2.2
     go_simp
     go_at_call 54
     refine (specVals_any x1_4 S _ _ _ (Row.bel hbl9 GR1_4.out) (by omega)).mono ?_
     rintro e w2 ⟨vv,rfl,hO,hn,hb2⟩
     obtain⟨AJ,dJ,L9,hvv,-⟩:=hO.ownRow
     rw[List.length_map]at hvv
     subst hvv
     exact hK.out _ _ hb2 ⟨AJ,dJ,rfl,hO,fun q hq=>⟨Nat.le_trans hz9 (hn q hq),by show ¬Blk (u 10) [] q;rw[e10];intro hc;have h1:=hI.lt q hc;have h2:=hn q hq;omega⟩⟩
    case s14 =>
     intro u wa hG hf K hK
     have e3:(u 3)=.int .i64 x1_0:=fact_ofU hf 3 (by kernel_rfl)
     have e5:(u 5)=.int .i64 x1_1:=fact_ofU hf 5 (by kernel_rfl)
     have e7:(u 7)=.int .i64 x1_2:=fact_ofU hf 7 (by kernel_rfl)
     have e10:∃(AI:Option Addr) (dI:Nat),(u 10)=.slice AI (List.length x1_3) dI∧OwnD wa 43 6 (.slice AI (List.length x1_3) dI) [] (x1_3.map TValue.D)∧(∀q,Blk (.slice AI (List.length x1_3) dI) [] q→wr.heap.size≤q):=fact_ofU hf 10 (by kernel_rfl)
     have e13:∃(AJ:Option Addr) (dJ:Nat),(u 13)=.slice AJ (List.length x1_4) dJ∧OwnD wa 43 6 (.slice AJ (List.length x1_4) dJ) [] (x1_4.map TValue.D)∧(∀q,Blk (.slice AJ (List.length x1_4) dJ) [] q→wr.heap.size≤q∧¬Blk (u 10) [] q):=fact_ofU hf 13 (by kernel_rfl)
     clear hf
     clear hG
     simp only[Act.put,List.setIfInBounds_toArray,List.set_cons_zero,List.set_cons_succ,List.getElem_toArray,List.getElem_cons_zero,List.getElem_cons_succ]at hK ⊢
     rw[e3]at hK ⊢
     rw[e5]at hK ⊢
     rw[e7]at hK ⊢
     obtain⟨AI,dI,e10,hI,hIl⟩:=e10
     rw[e10]at hK ⊢
     obtain⟨AJ,dJ,e13,hJ,hJl⟩:=e13
     rw[e13]at hK ⊢
     rw[e10]at hJl
     go_simp
     exact hK.out _ _ (Bel.refl _) ⟨AI,dI,AJ,dJ,rfl,hI,hJ,hIl,hJl⟩
    case s15 =>
     intro u wa hG hf K hK
     have g0:=g0_of hG (by kernel_rfl)
     have e14:∃(AI:Option Addr) (dI:Nat) (AJ:Option Addr) (dJ:Nat),(u 14)=.agg #[.int .i64 x1_0,.int .i64 x1_1,.int .i64 x1_2,.slice AI (List.length x1_3) dI,.slice AJ (List.length x1_4) dJ]∧OwnD wa 43 6 (.slice AI (List.length x1_3) dI) [] (x1_3.map TValue.D)∧OwnD wa 43 6 (.slice AJ (List.length x1_4) dJ) [] (x1_4.map TValue.D)∧(∀q,Blk (.slice AI (List.length x1_3) dI) [] q→wr.heap.size≤q)∧(∀q,Blk (.slice AJ (List.length x1_4) dJ) [] q→wr.heap.size≤q∧¬Blk (.slice AI (List.length x1_3) dI) [] q):=fact_ofU hf 14 (by kernel_rfl)
     clear hf
     clear hG
     simp only[Act.put,List.setIfInBounds_toArray,List.set_cons_zero,List.set_cons_succ,List.getElem_toArray,List.getElem_cons_zero,List.getElem_cons_succ]at hK ⊢
     obtain⟨AI,dI,AJ,dJ,e14,hI,hJ,hIl,hJl⟩:=e14
     rw[e14]at hK ⊢
     have hz9:=Bel.size g0.2.2
     have hbx:Bel wa (wa.alloc (.cells #[.int .i64 x1_0,.int .i64 x1_1,.int .i64 x1_2,.slice AI (List.length x1_3) dI,.slice AJ (List.length x1_4) dJ] 89)):=bl
     go_simp
     exact hK.out _ _ hbx ⟨AI,dI,AJ,dJ,wa.heap.size,rfl,hz9,heap_alloc_new _ _,hI.bel hbx,hJ.bel hbx,hIl,hJl⟩
   case hp =>
    simp only[putP,Act.put,List.setIfInBounds_toArray,List.set_cons_zero,List.set_cons_succ,List.getElem_toArray,List.getElem_cons_zero,List.getElem_cons_succ]
    intro u wa hG hf K hK
    have e1:(u 1)=v:=fact_ofU hf 1 (by kernel_rfl)
    have e15:∃(AI:Option Addr) (dI:Nat) (AJ:Option Addr) (dJ:Nat) (g:Nat),(u 15)=.slice (some ⟨g,0,none⟩) 1 1∧wr.heap.size≤g∧wa.heap[g]?=some (.cells #[.int .i64 x1_0,.int .i64 x1_1,.int .i64 x1_2,.slice AI (List.length x1_3) dI,.slice AJ (List.length x1_4) dJ] 89)∧OwnD wa 43 6 (.slice AI (List.length x1_3) dI) [] (x1_3.map TValue.D)∧OwnD wa 43 6 (.slice AJ (List.length x1_4) dJ) [] (x1_4.map TValue.D)∧(∀q,Blk (.slice AI (List.length x1_3) dI) [] q→wr.heap.size≤q)∧(∀q,Blk (.slice AJ (List.length x1_4) dJ) [] q→wr.heap.size≤q∧¬Blk (.slice AI (List.length x1_3) dI) [] q):=fact_ofU hf 15 (by kernel_rfl)
    clear hf
    rw[e1]at hK ⊢
    obtain⟨AI,dI,AJ,dJ,g,e15,hg1,hg2,hI,hJ,hIl,hJl⟩:=e15
    rw[e15]at hK ⊢
    obtain⟨AI2,cI2,LI,eI,rI,nI2,mI⟩:=hI.ownRow
    obtain⟨AJ2,cJ2,LJ,eJ,rJ,nJ2,mJ⟩:=hJ.ownRow
    simp only[List.length_map]at eI eJ
    injection eI with eI1 eI2 eI3
    injection eJ with eJ1 eJ2 eJ3
    subst eI1 eI3 eJ1 eJ3
    have hov:=TObject.own_mk g1_0 g1_1 g1_2 rI rJ
    have hnd:(LI++LJ).Nodup:=nodup_app nI2 nJ2 (fun a ha hb=>(hJl a (mJ a hb)).2 (mI a ha))
    have hlm:∀a,a∈LI++LJ→wr.heap.size≤a:=fun a ha=>(List.mem_append.1 ha).elim (fun q=>hIl a (mI a q)) (fun q=>(hJl a (mJ a q)).1)
    have hold:=hG.1.cl.ents.own ⟨89,5,v,L,(x2.take i).map TObject.D⟩ (by simp)
    have hlv:=(TA.out.cl.ents.own ⟨89,5,v,L,(x2.take i).map TObject.D⟩ (by simp)).lt
    have hsr:Src wa 5 (some ⟨g,0,none⟩) 1 (LI++LJ) [TObject.D (.mk x1_0 x1_1 x1_2 x1_3 x1_4)] [.int .i64 x1_0,.int .i64 x1_1,.int .i64 x1_2,.slice AI (List.length x1_3) dI,.slice AJ (List.length x1_4) dJ]:=⟨rfl,(fun h=>(by cases h)),⟨LI++LJ,[],[.int .i64 x1_0,.int .i64 x1_1,.int .i64 x1_2,.slice AI (List.length x1_3) dI,.slice AJ (List.length x1_4) dJ],[],by simp,by simp,rfl,hov,rfl,rfl⟩,hnd,fun ad hA j u hu=>by obtain rfl:=Option.some.inj hA;rw[addr_add];unfold World.cell?;simp only[hg2];simpa using hu⟩
    refine wp_append_D (.tmp 31) (.tmp 45) 36 rfl 89 io (.agg #[.int .i64 0,.int .i64 0,.int .i64 0,.slice none 0 0,.slice none 0 0]) 5 72 Tryz.underlying36 hio zo0 zo1 zo2 (by decide) (by decide) hold hsr 1 rfl rfl (fun b hb hm=>by have h1:=hlv b hb;have h2:=hlm b hm;omega) (by rw[List.length_map,List.length_take];omega) (by rw[List.length_map,List.length_take];unfold maxLen;omega) (fun v9 w9 hO9 hg9 hw9=>?_)
    (try simp only[Act.put,List.setIfInBounds_toArray,List.set_cons_zero,List.set_cons_succ,List.getElem_toArray,List.getElem_cons_zero,List.getElem_cons_succ])
    have hz9:=Bel.size hG.2.2
    refine hK.out _ _ ⟨hg9.size,fun k hk hl=>hg9.block k hl (fun e=>by have:=hlv k (Or.inl e.symm);omega)⟩ ⟨wa,hG.2.2,hg9⟩ ⟨LI++LJ,by rw[take_D TObject.D h,HX1.out];first | exact hO9 | (rw[List.map_take];exact hO9),fun q hq=>?_⟩
    rcases hq with hq | hq
    ·
     rcases hw9 q hq with e | e
     ·
      exact Or.inl (Or.inl e)
     ·
      exact Or.inr (by omega)
    ·
     rcases List.mem_append.1 hq with hq | hq
     ·
      exact Or.inl (Or.inr hq)
     ·
      exact Or.inr (hlm q hq)
   case hlast =>
    simp only[putP,Act.put,List.setIfInBounds_toArray,List.set_cons_zero,List.set_cons_succ,List.getElem_toArray,List.getElem_cons_zero,List.getElem_cons_succ]
    intro u wa hG hf K hK
    have e16:∃M:List Nat,OwnD wa 89 5 (u 16) (L++M) ((x2.take (i+1)).map TObject.D)∧∀q,Blk (u 16) (L++M) q→Blk v L q∨wr.heap.size≤q:=hf 16 (by decide)
    have e17:u 17=.pointer (some ⟨(w.heap.size+2),2,none⟩):=hf 17 (by decide)
    clear hf
    obtain⟨M,hO,hbl⟩:=e16
    obtain⟨A9,n9,c9,e16⟩:∃A9 n9 c9,u 16=.slice A9 n9 c9:=by obtain⟨A9,c9,L9,hv9,-⟩:=hO.ownRow;exact⟨_,_,_,hv9⟩
    rw[e16]at hO hbl hK ⊢
    rw[e17]at hK ⊢
    obtain⟨wm,h2,h3⟩:=hG
    have hGR:=ClF.grow (l:=[⟨9,1,(.slice B0 m0 d0),[],x0.map (fun x=>[Dat.str x])⟩,⟨92,3,(.slice B1 m1 d1),L1,x1.map TRecordType.D⟩]) (e:=⟨89,5,v,L,(x2.take i).map TObject.D⟩) (e':=⟨89,5,.slice A9 n9 c9,L++M,(x2.take (i+1)).map TObject.D⟩) TA.out h2 h3 hO hbl
    obtain⟨GB,GN⟩:=hGR
    have HGN:=hide (GN 2 (.slice A9 n9 c9) (GB.put2 _))
    clear GN h2 h3 hO hbl
    obtain⟨hlb8,hfb8,kb8_0,kb8_1,kb8_2,kb8_3,kb8_4,kb8_5,kb8_6,kb8_7,kb8_8,kb8_9,kb8_10,kb8_11,kb8_12⟩:=GB
    go_simp
    refine hK.out undef _ ?_
    clear hK
    exact rk212
  ·
   skip
   have hdc:decide ((i:Int)<(x2.length:Int))=false:=by simp;omega
   have hdn:decide (i<x2.length)=false:=by simp;omega
   obtain⟨B2,m2,d2,rfl⟩:∃A9 n9 c9,v=.slice A9 n9 c9:=by obtain⟨A9,c9,L9,hv9,-⟩:=(HT.out.cl.ents.own ⟨89,5,v,L,(x2.take i).map TObject.D⟩ (by simp)).ownRow;exact⟨_,_,_,hv9⟩
   have T6:=hide (show ClF w (w.heap.size+3) wr (w.heap.size+2) w.heap.size (w.heap.size+1) (.slice B0 m0 d0) (.slice B1 m1 d1) (.slice B2 m2 d2) (.slice A3 x3.length c3) (.string x4) (.int .i64 x5) (.slice A6 x6.length c6) (.slice A7 x7.length c7) (.slice A8 x8.length c8) (.bool x9) (.int .i64 x10) (.int .i64 x11) (.int .i64 x12) (.slice A0 x0.length c0) (.slice A1 x1.length c1) (.slice A2 x2.length c2) (.slice A3 x3.length c3) (.string x4) (.int .i64 x5) (.slice A6 x6.length c6) (.slice A7 x7.length c7) (.slice A8 x8.length c8) (.bool x9) (.int .i64 x10) (.int .i64 x11) (.int .i64 x12) [⟨9,1,(.slice B0 m0 d0),[],x0.map (fun x=>[Dat.str x])⟩,⟨92,3,(.slice B1 m1 d1),L1,x1.map TRecordType.D⟩,⟨89,5,(.slice B2 m2 d2),L,x2.map TObject.D⟩]from by have h:=HT.out;rw[List.take_of_length_le (show x2.length≤i by omega)]at h;exact h)
   clear HT
   obtain⟨hlq,hfq,kq_0,kq_1,kq_2,kq_3,kq_4,kq_5,kq_6,kq_7,kq_8,kq_9,kq_10,kq_11,kq_12⟩:=T6.out.sb
   obtain⟨hlb,hfb,kb_0,kb_1,kb_2,kb_3,kb_4,kb_5,kb_6,kb_7,kb_8,kb_9,kb_10,kb_11,kb_12⟩:=T6.out.cl.box
   go_upto_region 10 with (fail)
   go_upto_region 11 with (go_at_call 54;refine (specVals_any x3 S _ _ _ (Row.bel T6.out.cl.bel HR3.out) hx3).mono ?_;rintro e w9 ⟨v9,rfl,hO9,hn9,hb9⟩;have HO9:=hide hO9;have HN9:=hide hn9;have HB9:=hide hb9;clear hO9 hn9 hb9;obtain⟨B3,m3,d3,rfl⟩:∃A9 n9 c9,v9=.slice A9 n9 c9:=(by obtain⟨A9,c9,L9,hv9,-⟩:=HO9.out.ownRow;exact⟨_,_,_,hv9⟩);have TT9:=hide (T6.out.on HB9.out);obtain⟨hlb9,hfb9,kb9_0,kb9_1,kb9_2,kb9_3,kb9_4,kb9_5,kb9_6,kb9_7,kb9_8,kb9_9,kb9_10,kb9_11,kb9_12⟩:=TT9.out.cl.box)
   clear hlq hfq kq_0 kq_1 kq_2 kq_3 kq_4 kq_5 kq_6 kq_7 kq_8 kq_9 kq_10 kq_11 kq_12 hlb hfb kb_0 kb_1 kb_2 kb_3 kb_4 kb_5 kb_6 kb_7 kb_8 kb_9 kb_10 kb_11 kb_12
   refine wp_named2 fun wq7 hwq7=>?_
   have T7:=hide (show ClF w (w.heap.size+3) wq7 (w.heap.size+2) w.heap.size (w.heap.size+1) (.slice B0 m0 d0) (.slice B1 m1 d1) (.slice B2 m2 d2) (.slice B3 m3 d3) (.string x4) (.int .i64 x5) (.slice A6 x6.length c6) (.slice A7 x7.length c7) (.slice A8 x8.length c8) (.bool x9) (.int .i64 x10) (.int .i64 x11) (.int .i64 x12) (.slice A0 x0.length c0) (.slice A1 x1.length c1) (.slice A2 x2.length c2) (.slice A3 x3.length c3) (.string x4) (.int .i64 x5) (.slice A6 x6.length c6) (.slice A7 x7.length c7) (.slice A8 x8.length c8) (.bool x9) (.int .i64 x10) (.int .i64 x11) (.int .i64 x12) [⟨9,1,(.slice B0 m0 d0),[],x0.map (fun x=>[Dat.str x])⟩,⟨92,3,(.slice B1 m1 d1),L1,x1.map TRecordType.D⟩,⟨89,5,(.slice B2 m2 d2),L,x2.map TObject.D⟩,⟨43,6,(.slice B3 m3 d3),[],x3.map TValue.D⟩]from by rw[←hwq7];exact T6.out.next HB9.out HO9.out HN9.out 3 (TT9.out.cl.box.put3 _))
   clear hwq7 HB9 HO9 HN9 TT9 T6 hlb9 hfb9 kb9_0 kb9_1 kb9_2 kb9_3 kb9_4 kb9_5 kb9_6 kb9_7 kb9_8 kb9_9 kb9_10 kb9_11 kb9_12
   obtain⟨hlq,hfq,kq_0,kq_1,kq_2,kq_3,kq_4,kq_5,kq_6,kq_7,kq_8,kq_9,kq_10,kq_11,kq_12⟩:=T7.out.sb
   obtain⟨hlb,hfb,kb_0,kb_1,kb_2,kb_3,kb_4,kb_5,kb_6,kb_7,kb_8,kb_9,kb_10,kb_11,kb_12⟩:=T7.out.cl.box
   have HO5:=hide (OwnD.lit0 wq7 9 1)
   obtain⟨nw,hsr⟩:=Row.src (strs_flat x6) (Row.bel (Bel.trans T7.out.cl.bel (show Bel wq7 (wq7.alloc (.cells #[] 9))from bl)) HR6.out)
   rw[List.length_map]at hsr
   have HSR:=hide hsr
   clear hsr
   go_wp2_with (at_builtin;refine wpList_append_D rfl (.tmp 52) (.tmp 54) 22 rfl 9 is (.string ByteArray.empty) 1 16 Tryz.underlying22 his zs0 zs1 zs2 (by decide) (by decide) HO5.out HSR.out c6 rfl rfl (fun b _ h=>by cases h) (by simp only[List.length_nil];omega) (by simp only[List.length_nil];unfold maxLen;omega) ?_)
   intro v9 w9 hO9 hg9 hw9
   have HQ:=hide (copy_bel hg9 hw9)
   have HO9:=hide (show OwnD w9 9 1 v9 [] (x6.map (fun x=>[Dat.str x]))from hO9)
   clear hO9 hg9 hw9 HO5 HSR
   clear hlq hfq kq_0 kq_1 kq_2 kq_3 kq_4 kq_5 kq_6 kq_7 kq_8 kq_9 kq_10 kq_11 kq_12 hlb hfb kb_0 kb_1 kb_2 kb_3 kb_4 kb_5 kb_6 kb_7 kb_8 kb_9 kb_10 kb_11 kb_12
   obtain⟨B6,m6,d6,rfl⟩:∃A9 n9 c9,v9=.slice A9 n9 c9:=by obtain⟨A9,c9,L9,hv9,-⟩:=HO9.out.ownRow;exact⟨_,_,_,hv9⟩
   have TT9:=hide (T7.out.on HQ.out.1)
   obtain⟨hlq9,hfq9,kq9_0,kq9_1,kq9_2,kq9_3,kq9_4,kq9_5,kq9_6,kq9_7,kq9_8,kq9_9,kq9_10,kq9_11,kq9_12⟩:=TT9.out.sb
   obtain⟨hlb9,hfb9,kb9_0,kb9_1,kb9_2,kb9_3,kb9_4,kb9_5,kb9_6,kb9_7,kb9_8,kb9_9,kb9_10,kb9_11,kb9_12⟩:=TT9.out.cl.box
   go_upto_region 12 with (fail)
   refine wp_named2 fun wq8 hwq8=>?_
   have T8:=hide (show ClF w (w.heap.size+3) wq8 (w.heap.size+2) w.heap.size (w.heap.size+1) (.slice B0 m0 d0) (.slice B1 m1 d1) (.slice B2 m2 d2) (.slice B3 m3 d3) (.string x4) (.int .i64 x5) (.slice B6 m6 d6) (.slice A7 x7.length c7) (.slice A8 x8.length c8) (.bool x9) (.int .i64 x10) (.int .i64 x11) (.int .i64 x12) (.slice A0 x0.length c0) (.slice A1 x1.length c1) (.slice A2 x2.length c2) (.slice A3 x3.length c3) (.string x4) (.int .i64 x5) (.slice A6 x6.length c6) (.slice A7 x7.length c7) (.slice A8 x8.length c8) (.bool x9) (.int .i64 x10) (.int .i64 x11) (.int .i64 x12) [⟨9,1,(.slice B0 m0 d0),[],x0.map (fun x=>[Dat.str x])⟩,⟨92,3,(.slice B1 m1 d1),L1,x1.map TRecordType.D⟩,⟨89,5,(.slice B2 m2 d2),L,x2.map TObject.D⟩,⟨43,6,(.slice B3 m3 d3),[],x3.map TValue.D⟩,⟨9,1,(.slice B6 m6 d6),[],x6.map (fun x=>[Dat.str x])⟩]from by rw[←hwq8];exact T7.out.next HQ.out.1 HO9.out HQ.out.2 6 (TT9.out.cl.box.put6 _))
   clear hlq9 hfq9 kq9_0 kq9_1 kq9_2 kq9_3 kq9_4 kq9_5 kq9_6 kq9_7 kq9_8 kq9_9 kq9_10 kq9_11 kq9_12 hlb9 hfb9 kb9_0 kb9_1 kb9_2 kb9_3 kb9_4 kb9_5 kb9_6 kb9_7 kb9_8 kb9_9 kb9_10 kb9_11 kb9_12
   clear hwq8 HQ HO9 TT9 T7
   obtain⟨hlq,hfq,kq_0,kq_1,kq_2,kq_3,kq_4,kq_5,kq_6,kq_7,kq_8,kq_9,kq_10,kq_11,kq_12⟩:=T8.out.sb
   obtain⟨hlb,hfb,kb_0,kb_1,kb_2,kb_3,kb_4,kb_5,kb_6,kb_7,kb_8,kb_9,kb_10,kb_11,kb_12⟩:=T8.out.cl.box
   have HO5:=hide (OwnD.lit0 wq8 9 1)
   obtain⟨nw,hsr⟩:=Row.src (strs_flat x7) (Row.bel (Bel.trans T8.out.cl.bel (show Bel wq8 (wq8.alloc (.cells #[] 9))from bl)) HR7.out)
   rw[List.length_map]at hsr
   have HSR:=hide hsr
   clear hsr
   go_wp2_with (at_builtin;refine wpList_append_D rfl (.tmp 57) (.tmp 59) 22 rfl 9 is (.string ByteArray.empty) 1 16 Tryz.underlying22 his zs0 zs1 zs2 (by decide) (by decide) HO5.out HSR.out c7 rfl rfl (fun b _ h=>by cases h) (by simp only[List.length_nil];omega) (by simp only[List.length_nil];unfold maxLen;omega) ?_)
   intro v9 w9 hO9 hg9 hw9
   have HQ:=hide (copy_bel hg9 hw9)
   have HO9:=hide (show OwnD w9 9 1 v9 [] (x7.map (fun x=>[Dat.str x]))from hO9)
   clear hO9 hg9 hw9 HO5 HSR
   clear hlq hfq kq_0 kq_1 kq_2 kq_3 kq_4 kq_5 kq_6 kq_7 kq_8 kq_9 kq_10 kq_11 kq_12 hlb hfb kb_0 kb_1 kb_2 kb_3 kb_4 kb_5 kb_6 kb_7 kb_8 kb_9 kb_10 kb_11 kb_12
   obtain⟨B7,m7,d7,rfl⟩:∃A9 n9 c9,v9=.slice A9 n9 c9:=by obtain⟨A9,c9,L9,hv9,-⟩:=HO9.out.ownRow;exact⟨_,_,_,hv9⟩
   have TT9:=hide (T8.out.on HQ.out.1)
   obtain⟨hlq9,hfq9,kq9_0,kq9_1,kq9_2,kq9_3,kq9_4,kq9_5,kq9_6,kq9_7,kq9_8,kq9_9,kq9_10,kq9_11,kq9_12⟩:=TT9.out.sb
   obtain⟨hlb9,hfb9,kb9_0,kb9_1,kb9_2,kb9_3,kb9_4,kb9_5,kb9_6,kb9_7,kb9_8,kb9_9,kb9_10,kb9_11,kb9_12⟩:=TT9.out.cl.box
   go_upto_region 13 with (fail)
   refine wp_named2 fun wq9 hwq9=>?_
   have T9:=hide (show ClF w (w.heap.size+3) wq9 (w.heap.size+2) w.heap.size (w.heap.size+1) (.slice B0 m0 d0) (.slice B1 m1 d1) (.slice B2 m2 d2) (.slice B3 m3 d3) (.string x4) (.int .i64 x5) (.slice B6 m6 d6) (.slice B7 m7 d7) (.slice A8 x8.length c8) (.bool x9) (.int .i64 x10) (.int .i64 x11) (.int .i64 x12) (.slice A0 x0.length c0) (.slice A1 x1.length c1) (.slice A2 x2.length c2) (.slice A3 x3.length c3) (.string x4) (.int .i64 x5) (.slice A6 x6.length c6) (.slice A7 x7.length c7) (.slice A8 x8.length c8) (.bool x9) (.int .i64 x10) (.int .i64 x11) (.int .i64 x12) [⟨9,1,(.slice B0 m0 d0),[],x0.map (fun x=>[Dat.str x])⟩,⟨92,3,(.slice B1 m1 d1),L1,x1.map TRecordType.D⟩,⟨89,5,(.slice B2 m2 d2),L,x2.map TObject.D⟩,⟨43,6,(.slice B3 m3 d3),[],x3.map TValue.D⟩,⟨9,1,(.slice B6 m6 d6),[],x6.map (fun x=>[Dat.str x])⟩,⟨9,1,(.slice B7 m7 d7),[],x7.map (fun x=>[Dat.str x])⟩]from by rw[←hwq9];exact T8.out.next HQ.out.1 HO9.out HQ.out.2 7 (TT9.out.cl.box.put7 _))
   clear hlq9 hfq9 kq9_0 kq9_1 kq9_2 kq9_3 kq9_4 kq9_5 kq9_6 kq9_7 kq9_8 kq9_9 kq9_10 kq9_11 kq9_12 hlb9 hfb9 kb9_0 kb9_1 kb9_2 kb9_3 kb9_4 kb9_5 kb9_6 kb9_7 kb9_8 kb9_9 kb9_10 kb9_11 kb9_12
   clear hwq9 HQ HO9 TT9 T8
   obtain⟨hlq,hfq,kq_0,kq_1,kq_2,kq_3,kq_4,kq_5,kq_6,kq_7,kq_8,kq_9,kq_10,kq_11,kq_12⟩:=T9.out.sb
   obtain⟨hlb,hfb,kb_0,kb_1,kb_2,kb_3,kb_4,kb_5,kb_6,kb_7,kb_8,kb_9,kb_10,kb_11,kb_12⟩:=T9.out.cl.box
   have HO5:=hide (OwnD.lit0 wq9 96 2)
   obtain⟨nw,hsr⟩:=Row.src (act_flat x8) (Row.bel (Bel.trans T9.out.cl.bel (show Bel wq9 (wq9.alloc (.cells #[] 96))from bl)) HR8.out)
   rw[List.length_map]at hsr
   have HSR:=hide hsr
   clear hsr
   go_wp2_with (at_builtin;refine wpList_append_D rfl (.tmp 62) (.tmp 64) 38 rfl 96 ia (.agg #[.int .i64 0,.int .i64 0]) 2 16 Tryz.underlying38 hia za0 za1 za2 (by decide) (by decide) HO5.out HSR.out c8 rfl rfl (fun b _ h=>by cases h) (by simp only[List.length_nil];omega) (by simp only[List.length_nil];unfold maxLen;omega) ?_)
   intro v9 w9 hO9 hg9 hw9
   have HQ:=hide (copy_bel hg9 hw9)
   have HO9:=hide (show OwnD w9 96 2 v9 [] (x8.map TActive.D)from hO9)
   clear hO9 hg9 hw9 HO5 HSR
   clear hlq hfq kq_0 kq_1 kq_2 kq_3 kq_4 kq_5 kq_6 kq_7 kq_8 kq_9 kq_10 kq_11 kq_12 hlb hfb kb_0 kb_1 kb_2 kb_3 kb_4 kb_5 kb_6 kb_7 kb_8 kb_9 kb_10 kb_11 kb_12
   obtain⟨B8,m8,d8,rfl⟩:∃A9 n9 c9,v9=.slice A9 n9 c9:=by obtain⟨A9,c9,L9,hv9,-⟩:=HO9.out.ownRow;exact⟨_,_,_,hv9⟩
   have TT9:=hide (T9.out.on HQ.out.1)
   obtain⟨hlq9,hfq9,kq9_0,kq9_1,kq9_2,kq9_3,kq9_4,kq9_5,kq9_6,kq9_7,kq9_8,kq9_9,kq9_10,kq9_11,kq9_12⟩:=TT9.out.sb
   obtain⟨hlb9,hfb9,kb9_0,kb9_1,kb9_2,kb9_3,kb9_4,kb9_5,kb9_6,kb9_7,kb9_8,kb9_9,kb9_10,kb9_11,kb9_12⟩:=TT9.out.cl.box
   go_upto_region 14 with (fail)
   refine wp_named2 fun wq10 hwq10=>?_
   have T10:=hide (show ClF w (w.heap.size+3) wq10 (w.heap.size+2) w.heap.size (w.heap.size+1) (.slice B0 m0 d0) (.slice B1 m1 d1) (.slice B2 m2 d2) (.slice B3 m3 d3) (.string x4) (.int .i64 x5) (.slice B6 m6 d6) (.slice B7 m7 d7) (.slice B8 m8 d8) (.bool x9) (.int .i64 x10) (.int .i64 x11) (.int .i64 x12) (.slice A0 x0.length c0) (.slice A1 x1.length c1) (.slice A2 x2.length c2) (.slice A3 x3.length c3) (.string x4) (.int .i64 x5) (.slice A6 x6.length c6) (.slice A7 x7.length c7) (.slice A8 x8.length c8) (.bool x9) (.int .i64 x10) (.int .i64 x11) (.int .i64 x12) [⟨9,1,(.slice B0 m0 d0),[],x0.map (fun x=>[Dat.str x])⟩,⟨92,3,(.slice B1 m1 d1),L1,x1.map TRecordType.D⟩,⟨89,5,(.slice B2 m2 d2),L,x2.map TObject.D⟩,⟨43,6,(.slice B3 m3 d3),[],x3.map TValue.D⟩,⟨9,1,(.slice B6 m6 d6),[],x6.map (fun x=>[Dat.str x])⟩,⟨9,1,(.slice B7 m7 d7),[],x7.map (fun x=>[Dat.str x])⟩,⟨96,2,(.slice B8 m8 d8),[],x8.map TActive.D⟩]from by rw[←hwq10];exact T9.out.next HQ.out.1 HO9.out HQ.out.2 8 (TT9.out.cl.box.put8 _))
   clear hlq9 hfq9 kq9_0 kq9_1 kq9_2 kq9_3 kq9_4 kq9_5 kq9_6 kq9_7 kq9_8 kq9_9 kq9_10 kq9_11 kq9_12 hlb9 hfb9 kb9_0 kb9_1 kb9_2 kb9_3 kb9_4 kb9_5 kb9_6 kb9_7 kb9_8 kb9_9 kb9_10 kb9_11 kb9_12
   clear hwq10 HQ HO9 TT9 T9
   have HRB:=hide T10.out.rb
   obtain⟨hlq,hfq,kq_0,kq_1,kq_2,kq_3,kq_4,kq_5,kq_6,kq_7,kq_8,kq_9,kq_10,kq_11,kq_12⟩:=T10.out.sb
   obtain⟨hlb,hfb,kb_0,kb_1,kb_2,kb_3,kb_4,kb_5,kb_6,kb_7,kb_8,kb_9,kb_10,kb_11,kb_12⟩:=T10.out.cl.box
   refine wp_region_lit ?_
   refine wpList_plain rfl fun K hK=>?_
   go_simp
   refine hK _ _ ?_
   refine wpList_store_mid rfl 40 (.tmp 2) (.tmp 67) rfl (w.heap.size+1) 0 #[.slice B0 m0 d0,.slice B1 m1 d1,.slice B2 m2 d2,.slice B3 m3 d3,.string x4,.int .i64 x5,.slice B6 m6 d6,.slice B7 m7 d7,.slice B8 m8 d8,.bool x9,.int .i64 x10,.int .i64 x11,.int .i64 x12] rfl rfl HRB.out.there (by kernel_rfl) (by simp[Value.oneCell']) ?_
   refine wpList_namedF fun wz hwz=>?_
   replace hwz:wz=(((((((((((((wq10.setCell ⟨w.heap.size+1,0,none⟩ (.slice B0 m0 d0)).setCell ⟨w.heap.size+1,1,none⟩ (.slice B1 m1 d1)).setCell ⟨w.heap.size+1,2,none⟩ (.slice B2 m2 d2)).setCell ⟨w.heap.size+1,3,none⟩ (.slice B3 m3 d3)).setCell ⟨w.heap.size+1,4,none⟩ (.string x4)).setCell ⟨w.heap.size+1,5,none⟩ (.int .i64 x5)).setCell ⟨w.heap.size+1,6,none⟩ (.slice B6 m6 d6)).setCell ⟨w.heap.size+1,7,none⟩ (.slice B7 m7 d7)).setCell ⟨w.heap.size+1,8,none⟩ (.slice B8 m8 d8)).setCell ⟨w.heap.size+1,9,none⟩ (.bool x9)).setCell ⟨w.heap.size+1,10,none⟩ (.int .i64 x10)).setCell ⟨w.heap.size+1,11,none⟩ (.int .i64 x11)).setCell ⟨w.heap.size+1,12,none⟩ (.int .i64 x12)):=hwz
   have hsame:∀y,(w.heap.size+1)≠y→wz.heap[y]?=wq10.heap[y]?:=fun y hy=>by rw[hwz,set_block 12 _ hy,set_block 11 _ hy,set_block 10 _ hy,set_block 9 _ hy,set_block 8 _ hy,set_block 7 _ hy,set_block 6 _ hy,set_block 5 _ hy,set_block 4 _ hy,set_block 3 _ hy,set_block 2 _ hy,set_block 1 _ hy,set_block 0 _ hy]
   have hsz:wz.heap.size=wq10.heap.size:=by rw[hwz];simp
   have PZ:SB wz (w.heap.size+1) (.slice B0 m0 d0) (.slice B1 m1 d1) (.slice B2 m2 d2) (.slice B3 m3 d3) (.string x4) (.int .i64 x5) (.slice B6 m6 d6) (.slice B7 m7 d7) (.slice B8 m8 d8) (.bool x9) (.int .i64 x10) (.int .i64 x11) (.int .i64 x12):=by rw[hwz];exact ((((((((((((HRB.out.put0 _).put1 _).put2 _).put3 _).put4 _).put5 _).put6 _).put7 _).put8 _).put9 _).put10 _).put11 _).put12 _
   have hbz:Bel w wz:=by rw[hwz];exact (Below.setCell (Below.setCell (Below.setCell (Below.setCell (Below.setCell (Below.setCell (Below.setCell (Below.setCell (Below.setCell (Below.setCell (Below.setCell (Below.setCell (Below.setCell T10.out.cl.bel (show w.heap.size≤w.heap.size+1 by omega) _) (show w.heap.size≤w.heap.size+1 by omega) _) (show w.heap.size≤w.heap.size+1 by omega) _) (show w.heap.size≤w.heap.size+1 by omega) _) (show w.heap.size≤w.heap.size+1 by omega) _) (show w.heap.size≤w.heap.size+1 by omega) _) (show w.heap.size≤w.heap.size+1 by omega) _) (show w.heap.size≤w.heap.size+1 by omega) _) (show w.heap.size≤w.heap.size+1 by omega) _) (show w.heap.size≤w.heap.size+1 by omega) _) (show w.heap.size≤w.heap.size+1 by omega) _) (show w.heap.size≤w.heap.size+1 by omega) _) (show w.heap.size≤w.heap.size+1 by omega) _)
   have hez:Ents w.heap.size wz [⟨9,1,(.slice B0 m0 d0),[],x0.map (fun x=>[Dat.str x])⟩,⟨92,3,(.slice B1 m1 d1),L1,x1.map TRecordType.D⟩,⟨89,5,(.slice B2 m2 d2),L,x2.map TObject.D⟩,⟨43,6,(.slice B3 m3 d3),[],x3.map TValue.D⟩,⟨9,1,(.slice B6 m6 d6),[],x6.map (fun x=>[Dat.str x])⟩,⟨9,1,(.slice B7 m7 d7),[],x7.map (fun x=>[Dat.str x])⟩,⟨96,2,(.slice B8 m8 d8),[],x8.map TActive.D⟩]:=(T10.out.cl.ents.keep (by omega) (fun e he x hx=>hsame x (by have:=T10.out.cl.ents.low e he x hx;omega))).weak (by omega)
   clear hlq hfq kq_0 kq_1 kq_2 kq_3 kq_4 kq_5 kq_6 kq_7 kq_8 kq_9 kq_10 kq_11 kq_12 hlb hfb kb_0 kb_1 kb_2 kb_3 kb_4 kb_5 kb_6 kb_7 kb_8 kb_9 kb_10 kb_11 kb_12
   obtain⟨-,-,e0,e1,e2,e3,e4,e5,e6,e7,e8,e9,e10,e11,e12⟩:=PZ
   clear hwz HRB hsame hsz
   refine wpList_nil ?_
   go_simp
   rename_i hKr
   refine hKr _ _ ?_
   clear hKr hK
   refine wp_ret ?_
   exact bodyPost_ret (v:=.agg #[.slice B0 m0 d0,.slice B1 m1 d1,.slice B2 m2 d2,.slice B3 m3 d3,.string x4,.int .i64 x5,.slice B6 m6 d6,.slice B7 m7 d7,.slice B8 m8 d8,.bool x9,.int .i64 x10,.int .i64 x11,.int .i64 x12]) (by simp[results,Tryz.results21,e0,e1,e2,e3,e4,e5,e6,e7,e8,e9,e10,e11,e12,go_sem];try rfl) rfl ⟨_,_,_,_,_,_,_,_,_,_,_,_,_,_,rfl,hez,hbz⟩
end Go.Proofs.YtppmgodahloogaaGreatDoor
