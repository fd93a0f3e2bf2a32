import Derived.Test.YtjngkknbpfgdcaaGreatDoorPr
import Derived.Test.YtjngkknbpfgdcaaGreatDoorPS2
import Derived.Test.YtjngkknbpfgdcaaGreatDoorPS3z
import Derived.Test.YtjngkknbpfgdcaaGreatDoorPShelf
import Derived.Test.YtjngkknbpfgdcaaGreatDoorPB
import Derived.StillTailTactics
import Derived.Deep.RegionHeld3
set_option linter.unusedVariables false
set_option linter.unusedSimpArgs false
set_option maxRecDepth 100000
set_option maxHeartbeats 8000000
namespace Go.Proofs.YtjngkknbpfgdcaaGreatDoor
open Go.RowKit
def Cr (s:cv) (n:Int):cz:=s.objects.getD n.toNat (.mk 0 0 0 [] [])
theorem Cs {s:cv} {m:Nat} (h:m<s.objects.length):Cr s (m:Int)=s.objects[m]:=by
 unfold Cr;rw[Int.toNat_natCast];simp[List.getD,h]
theorem lB {s:cv} {v:cV} (h:inB s v=true):dS v=true:=by
 cases hw:dS v
 ·
  rw[gW hw]at h;cases h
 ·
  rfl
theorem qk {s:cv} {k n i:Int} {t:ByteArray} {lo hi:Int} (h:inB s ⟨k,n,i,t,lo,hi⟩=true) (hk:k=5\/k=13\/k=15\/k=16\/k=17) :
  ∃m:Nat,n=m/\∃hm:m<s.objects.length,s.objects[m].kind=ef k/\(k=13\/k=16->i<(s.objects[m].items.length:Int)):=by
 have hw:=lB h
 have hn:=gT hw aB
 obtain⟨m,rfl⟩:=Int.eq_ofNat_of_zero_le hn
 have hk0:ef k≠0:=by rcases hk with rfl | rfl | rfl | rfl | rfl <;> decide
 rw[gS hw hk0]at h
 rcases Nat.lt_or_ge m s.objects.length with hlt | hge
 ·
  rw[iS (o:=s.objects[m]) aN aK]at h
  rw[Bool.and_eq_true,decide_eq_true_eq]at h
  refine⟨m,rfl,hlt,h.1,fun hk=>?_⟩
  have h2:=h.2
  rw[if_pos hk]at h2
  simpa using h2
 ·
  rw[jy (by simpa using hge)]at h;cases h
theorem Ow {s:cv} {n i:Int} {t:ByteArray} {lo hi:Int} (h:inB s ⟨14,n,i,t,lo,hi⟩=true):i<(s.globals.length:Int):=by
 have hw:=lB h
 unfold inB at h
 rw[hw,if_neg (show ¬(ef 14≠0) by decide)]at h
 simpa using h
theorem Ar {s:cv} (h:gJ s=true) (m:Nat) (hm:m<s.objects.length):dx s s.objects[m]=true:=by
 cases ho:dx s s.objects[m]
 ·
  rw[DI m hm ho]at h;cases h
 ·
  rfl
theorem EU {s:cv} (h:gJ s=true) {m:Nat} (hm:m<s.objects.length) (hk:s.objects[m].kind=8) :
  ∃tag cR:Int,∃a b:cw,s.objects[m]=.mk 8 tag cR [a,b] []/\a.v.k=5/\inB s a.v=true/\inB s b.v=true:=by
 have ho:=Ar h m hm
 obtain⟨kd,tag,cR,its,keys,e⟩:∃kd tag cR its keys,s.objects[m]=.mk kd tag cR its keys:=by cases s.objects[m];exact⟨_,_,_,_,_,rfl⟩
 rw[e]at hk ho
 obtain rfl:kd=8:=hk
 rw[je]at ho
 simp only[Bool.and_eq_true,decide_eq_true_eq]at ho
 obtain⟨-,⟨⟨⟨⟨⟨-,hkl⟩,hil⟩,h5⟩,hin0⟩,hd⟩⟩:=ho
 obtain rfl:keys=[]:=List.length_eq_zero_iff.1 hkl
 obtain⟨a,b,rfl⟩:∃a b,its=[a,b]:=by
  match its,hil with
  | [a,b],_=>exact⟨a,b,rfl⟩
 refine⟨tag,cR,a,b,e,h5,hin0,?_⟩
 unfold iX at hd
 rw[Bool.and_eq_true]at hd
 exact hd.2
theorem EV {s:cv} (h:gJ s=true) {m:Nat} (hm:m<s.objects.length) (hk:s.objects[m].kind=3) :
  ∃tag cR its keys,s.objects[m]=.mk 3 tag cR its keys/\its.length=keys.length+1:=by
 have ho:=Ar h m hm
 obtain⟨kd,tag,cR,its,keys,e⟩:∃kd tag cR its keys,s.objects[m]=.mk kd tag cR its keys:=by cases s.objects[m];exact⟨_,_,_,_,_,rfl⟩
 rw[e]at hk ho
 obtain rfl:kd=3:=hk
 rw[gU]at ho
 simp only[Bool.and_eq_true,decide_eq_true_eq]at ho
 exact⟨tag,cR,its,keys,e,ho.2.1.1.1.2⟩
theorem S5 (l:List cw) (x:cV) : -1<=oB l x/\oB l x<(l.length:Int)+0\/oB l x = -1:=by
 unfold oB
 cases h:l.findIdx? (fun y=>y.v.tL x)with
 | none=>exact Or.inr rfl
 | some k =>
  have:=(List.findIdx?_eq_some_iff_getElem.1 h).1
  left;simp only;omega
theorem I2 (l:List cw) (x:cV):∃d:Nat,1+oB l x=(d:Int)/\d<=l.length:=by
 rcases S5 l x with h | h
 ·
  exact⟨(1+oB l x).toNat,by omega,by omega⟩
 ·
  exact⟨0,by omega,by omega⟩
--%quiet
theorem S6 (kd tag cR:Int) (its keys:List cw) (x:cV) (S:Nat->Prop) (w:World) (Ai Ak:Option Addr) (ci ck:Nat) (hR:Row w S 6 Ak ck (keys.map cw.D)) (hx:x.Ok) :
  Calls Tryz.prog 79 #[.agg #[.int .i64 kd,.int .i64 tag,.int .i64 cR,.slice Ai its.length ci,.slice Ak keys.length ck],.agg #[.int .i64 x.k,.int .i64 x.n,.int .i64 x.i,.string x.t,.int .i64 x.lo,.int .i64 x.hi]] w fun e w'=>e=.returned (.int .i64 (oB keys x))/\cE w w':=by
 have HR:=hide hR
 have hlen:=hR.1
 have hcm:=hR.2.1
 simp only[aj]at hlen
 unfold maxLen at hcm
 have hts:=hx.t
 unfold maxLen at hts
 clear hR
 obtain⟨k0,n0,i0,t0,Mn,hi0⟩:=x
 simp only at hts |-
 go_enter Tryz.func79,Tryz.ntmps79
 go_wp2_with (fail)
 repeat (any_goals (go_quiet (fail);(try go_wp2_with (fail))))
 go_loopw [5] (fun v wr=>∃m:Nat,v=.int .i64 m/\m<=keys.length/\Hid (∀j (hj:j<keys.length),j<m->keys[j].v.tL ⟨k0,n0,i0,t0,Mn,hi0⟩=false)/\cE ((w.alloc (.cells #[.int .i64 kd,.int .i64 tag,.int .i64 cR,.slice Ai its.length ci,.slice Ak keys.length ck] 81)).alloc (.cells #[.int .i64 k0,.int .i64 n0,.int .i64 i0,.string t0,.int .i64 Mn,.int .i64 hi0] 34)) wr) (fun v _=>keys.length - (intOf v).toNat)
 case atStart=>exact⟨0,rfl,by omega,fun j _ hj=>by omega,cE.refl _⟩
 case round =>
  obtain⟨m,rfl,m1,hm,hb0⟩:=hrel
  have hbw:cE w wr:=bl
  have hz0:=hb0.size
  simp only[World.size_alloc]at hz0
  have ako:=hb0.box w.heap.size aD
  have akp:=hb0.box (w.heap.size+1) aK
  have hl0:w.heap.size<wr.heap.size:=aB
  have hl1:w.heap.size+1<wr.heap.size:=aB
  by_cases h1:m<keys.length
  ·
   have hd:decide ((m:Int)<(keys.length:Int))=true:=aX
   (obtain⟨b1,o1,cH,cM,cN,cO,cP,dn,hA1,hS1,hl1,hx1,hv1,eY,eG,fa,dY,er,gw,db,de,dq,dy,dz,dU⟩:=cw.at HR.out m h1;subst hA1;have jh:=hide (Dat.cC.bel hbw hv1);have hh1:=hbw.box b1 hl1;have hw1:=ak hl1 (cE.size hbw);replace db:=(hh1 _).trans db;replace de:=(hh1 _).trans de;replace dq:=(hh1 _).trans dq;replace dy:=(hh1 _).trans dy;replace dz:=(hh1 _).trans dz;replace dU:=(hh1 _).trans dU;have gv:=hide hx1;clear hh1 hv1 hx1 hS1)
   have hne1:¬b1=wr.heap.size:=aB
   have hQ:=hide (fun W=>tQ cH cM cN cO cP dn k0 n0 i0 t0 Mn hi0 W)
   have HQ:=hide (show keys[m].v.tL ⟨k0,n0,i0,t0,Mn,hi0⟩=cV.tL ⟨cH,cM,cN,cO,cP,dn⟩ ⟨k0,n0,i0,t0,Mn,hi0⟩ by rw[gv.out];rfl)
   have hQ2:=hQ.out
   cases hn:cV.tL ⟨cH,cM,cN,cO,cP,dn⟩ ⟨k0,n0,i0,t0,Mn,hi0⟩
   ·
    have HN:=hide hn
    rw[hn]at hQ2
    clear hn
    go_wp2_with (fail)
    repeat (any_goals (go_quiet (fail);(try go_wp2_with (fail))))
    go_roundw
    case rel=>exact⟨m+1,by go_num,by omega,fun j hj hjm=>by
     by_cases e:j=m
     ·
      subst e;exact HQ.out.trans HN.out
     ·
      exact hm.out j hj aB,bl⟩
    case measure=>simp[intOf];omega
   ·
    have HA:=hide (EW m h1 (HQ.out.trans hn) fun j hj hjm=>hm.out j hj hjm)
    rw[hn]at hQ2
    clear hn
    exact Ox
  ·
   have hd:decide ((m:Int)<(keys.length:Int))=false:=aX
   have HA:=hide (Ct (l:=keys) fun k hk=>hm.out k hk aB)
   go_wp2_with (fail)
   repeat (any_goals (go_quiet (fail);(try go_wp2_with (fail))))
   all_goals
    go_returns
    exact⟨by rw[HA.out];first | done | rfl,bl⟩
end Go.Proofs.YtjngkknbpfgdcaaGreatDoor
