/- Lists of texts: copies in blocks of their own, marks. -/
import Derived.Test.YtoikhhnmbbbjjaaDoorPTV
import Derived.Test.YtoikhhnmbbbjjaaDoorPOw
import Derived.Deep.RegionHeld3
namespace Go.Proofs.YtoikhhnmbbbjjaaDoor
set_option linter.unusedVariables false
set_option linter.unusedSimpArgs false
set_option maxRecDepth 100000
open Go.RowKit
theorem TRecordType.own_mk {w:World} {x0:ByteArray} {x1:List ByteArray} {x2:Int} {A1:Option Addr} {c1:Nat} {L1:List Nat} (h0:x0.size≤maxLen) (h1:OwnRow w L1 1 A1 c1 (x1.map (fun x=>[Dat.str x]))) (h2:InI x2):Dat.OwnVals w (L1) (TRecordType.mk x0 x1 x2).D [.string x0,.slice A1 x1.length c1,.int .i64 x2]:=by
 rw[TRecordType.D_mk]
 exact⟨[],_,(List.nil_append _).symm,Dat.own_str.2 ⟨rfl,rfl,h0⟩,⟨L1,_,(List.append_nil _).symm,Dat.own_row.2 ⟨_,_,by simp only[List.length_map],h1⟩,⟨[],_,(List.nil_append _).symm,Dat.own_int.2 ⟨rfl,rfl,h2⟩,rfl⟩⟩⟩
end Go.Proofs.YtoikhhnmbbbjjaaDoor
namespace Go.Proofs.YtoikhhnmbbbjjaaDoor
set_option linter.unusedVariables false
set_option linter.unusedSimpArgs false
set_option maxRecDepth 100000
open Go.RowKit
theorem TValue.own_mk {w:World} {x0:Int} {x1:Int} {x2:Int} {x3:ByteArray} {x4:Int} {x5:Int} (h0:InI x0) (h1:InI x1) (h2:InI x2) (h3:x3.size≤maxLen) (h4:InI x4) (h5:InI x5):Dat.OwnVals w ([]) (TValue.mk x0 x1 x2 x3 x4 x5).D [.int .i64 x0,.int .i64 x1,.int .i64 x2,.string x3,.int .i64 x4,.int .i64 x5]:=by
 rw[TValue.D_mk]
 exact⟨[],_,(List.nil_append _).symm,Dat.own_int.2 ⟨rfl,rfl,h0⟩,⟨[],_,(List.nil_append _).symm,Dat.own_int.2 ⟨rfl,rfl,h1⟩,⟨[],_,(List.nil_append _).symm,Dat.own_int.2 ⟨rfl,rfl,h2⟩,⟨[],_,(List.nil_append _).symm,Dat.own_str.2 ⟨rfl,rfl,h3⟩,⟨[],_,(List.nil_append _).symm,Dat.own_int.2 ⟨rfl,rfl,h4⟩,⟨[],_,(List.nil_append _).symm,Dat.own_int.2 ⟨rfl,rfl,h5⟩,rfl⟩⟩⟩⟩⟩⟩
end Go.Proofs.YtoikhhnmbbbjjaaDoor
namespace Go.Proofs.YtoikhhnmbbbjjaaDoor
set_option linter.unusedVariables false
set_option linter.unusedSimpArgs false
set_option maxRecDepth 100000
open Go.RowKit
theorem TObject.own_mk {w:World} {x0:Int} {x1:Int} {x2:Int} {x3:List TValue} {x4:List TValue} {A3:Option Addr} {c3:Nat} {L3:List Nat} {A4:Option Addr} {c4:Nat} {L4:List Nat} (h0:InI x0) (h1:InI x1) (h2:InI x2) (h3:OwnRow w L3 6 A3 c3 (x3.map TValue.D)) (h4:OwnRow w L4 6 A4 c4 (x4.map TValue.D)):Dat.OwnVals w (L3++L4) (TObject.mk x0 x1 x2 x3 x4).D [.int .i64 x0,.int .i64 x1,.int .i64 x2,.slice A3 x3.length c3,.slice A4 x4.length c4]:=by
 rw[TObject.D_mk]
 exact⟨[],_,(List.nil_append _).symm,Dat.own_int.2 ⟨rfl,rfl,h0⟩,⟨[],_,(List.nil_append _).symm,Dat.own_int.2 ⟨rfl,rfl,h1⟩,⟨[],_,(List.nil_append _).symm,Dat.own_int.2 ⟨rfl,rfl,h2⟩,⟨L3,_,rfl,Dat.own_row.2 ⟨_,_,by simp only[List.length_map],h3⟩,⟨L4,_,(List.append_nil _).symm,Dat.own_row.2 ⟨_,_,by simp only[List.length_map],h4⟩,rfl⟩⟩⟩⟩⟩
end Go.Proofs.YtoikhhnmbbbjjaaDoor
namespace Go.Proofs.YtoikhhnmbbbjjaaDoor
set_option linter.unusedVariables false
set_option linter.unusedSimpArgs false
set_option maxRecDepth 100000
open Go.RowKit
theorem TActive.own_mk {w:World} {x0:Int} {x1:Int} (h0:InI x0) (h1:InI x1):Dat.OwnVals w ([]) (TActive.mk x0 x1).D [.int .i64 x0,.int .i64 x1]:=by
 rw[TActive.D_mk]
 exact⟨[],_,(List.nil_append _).symm,Dat.own_int.2 ⟨rfl,rfl,h0⟩,⟨[],_,(List.nil_append _).symm,Dat.own_int.2 ⟨rfl,rfl,h1⟩,rfl⟩⟩
end Go.Proofs.YtoikhhnmbbbjjaaDoor
namespace Go.Proofs.YtoikhhnmbbbjjaaDoor
set_option linter.unusedVariables false
set_option linter.unusedSimpArgs false
set_option maxRecDepth 100000
open Go.RowKit
theorem TStore.own_mk {w:World} {x0:List ByteArray} {x1:List TRecordType} {x2:List TObject} {x3:List TValue} {x4:ByteArray} {x5:Int} {x6:List ByteArray} {x7:List ByteArray} {x8:List TActive} {x9:Bool} {x10:Int} {x11:Int} {x12:Int} {A0:Option Addr} {c0:Nat} {L0:List Nat} {A1:Option Addr} {c1:Nat} {L1:List Nat} {A2:Option Addr} {c2:Nat} {L2:List Nat} {A3:Option Addr} {c3:Nat} {L3:List Nat} {A6:Option Addr} {c6:Nat} {L6:List Nat} {A7:Option Addr} {c7:Nat} {L7:List Nat} {A8:Option Addr} {c8:Nat} {L8:List Nat} (h0:OwnRow w L0 1 A0 c0 (x0.map (fun x=>[Dat.str x]))) (h1:OwnRow w L1 3 A1 c1 (x1.map TRecordType.D)) (h2:OwnRow w L2 5 A2 c2 (x2.map TObject.D)) (h3:OwnRow w L3 6 A3 c3 (x3.map TValue.D)) (h4:x4.size≤maxLen) (h5:InI x5) (h6:OwnRow w L6 1 A6 c6 (x6.map (fun x=>[Dat.str x]))) (h7:OwnRow w L7 1 A7 c7 (x7.map (fun x=>[Dat.str x]))) (h8:OwnRow w L8 2 A8 c8 (x8.map TActive.D)) (h10:InI x10) (h11:InI x11) (h12:InI x12):Dat.OwnVals w (L0++(L1++(L2++(L3++(L6++(L7++L8)))))) (TStore.mk x0 x1 x2 x3 x4 x5 x6 x7 x8 x9 x10 x11 x12).D [.slice A0 x0.length c0,.slice A1 x1.length c1,.slice A2 x2.length c2,.slice A3 x3.length c3,.string x4,.int .i64 x5,.slice A6 x6.length c6,.slice A7 x7.length c7,.slice A8 x8.length c8,.bool x9,.int .i64 x10,.int .i64 x11,.int .i64 x12]:=by
 rw[TStore.D_mk]
 exact⟨L0,_,rfl,Dat.own_row.2 ⟨_,_,by simp only[List.length_map],h0⟩,⟨L1,_,rfl,Dat.own_row.2 ⟨_,_,by simp only[List.length_map],h1⟩,⟨L2,_,rfl,Dat.own_row.2 ⟨_,_,by simp only[List.length_map],h2⟩,⟨L3,_,rfl,Dat.own_row.2 ⟨_,_,by simp only[List.length_map],h3⟩,⟨[],_,(List.nil_append _).symm,Dat.own_str.2 ⟨rfl,rfl,h4⟩,⟨[],_,(List.nil_append _).symm,Dat.own_int.2 ⟨rfl,rfl,h5⟩,⟨L6,_,rfl,Dat.own_row.2 ⟨_,_,by simp only[List.length_map],h6⟩,⟨L7,_,rfl,Dat.own_row.2 ⟨_,_,by simp only[List.length_map],h7⟩,⟨L8,_,(List.append_nil _).symm,Dat.own_row.2 ⟨_,_,by simp only[List.length_map],h8⟩,⟨[],_,(List.nil_append _).symm,Dat.own_bool.2 ⟨rfl,rfl⟩,⟨[],_,(List.nil_append _).symm,Dat.own_int.2 ⟨rfl,rfl,h10⟩,⟨[],_,(List.nil_append _).symm,Dat.own_int.2 ⟨rfl,rfl,h11⟩,⟨[],_,(List.nil_append _).symm,Dat.own_int.2 ⟨rfl,rfl,h12⟩,rfl⟩⟩⟩⟩⟩⟩⟩⟩⟩⟩⟩⟩⟩
end Go.Proofs.YtoikhhnmbbbjjaaDoor
