/- Lists of texts: copies in blocks of their own, marks. -/
import Derived.Test.YtehcjlkgfgpjnaaGreatDoorPTV
import Derived.Test.YtehcjlkgfgpjnaaGreatDoorPOw
import Derived.Deep.RegionHeld3
namespace Go.Proofs.YtehcjlkgfgpjnaaGreatDoor
set_option linter.unusedVariables false
set_option linter.unusedSimpArgs false
set_option maxRecDepth 100000
open Go.RowKit
theorem TRecordType.own_mk {w:World} {x0:ByteArray} {x1:List ByteArray} {x2:Int} {A1:Option Addr} {c1:Nat} {L1:List Nat} (h0:x0.size≤maxLen) (h1:OwnRow w L1 1 A1 c1 (x1.map (fun x=>[Dat.str x]))) (h2:InI x2):Dat.OwnVals w (L1) (TRecordType.mk x0 x1 x2).D [.string x0,.slice A1 x1.length c1,.int .i64 x2]:=by
 rw[TRecordType.D_mk]
 exact⟨[],_,(List.nil_append _).symm,Dat.own_str.2 ⟨rfl,rfl,h0⟩,⟨L1,_,(List.append_nil _).symm,Dat.own_row.2 ⟨_,_,by simp only[List.length_map],h1⟩,⟨[],_,(List.nil_append _).symm,Dat.own_int.2 ⟨rfl,rfl,h2⟩,rfl⟩⟩⟩
end Go.Proofs.YtehcjlkgfgpjnaaGreatDoor
namespace Go.Proofs.YtehcjlkgfgpjnaaGreatDoor
set_option linter.unusedVariables false
set_option linter.unusedSimpArgs false
set_option maxRecDepth 100000
open Go.RowKit
theorem TValue.own_mk {w:World} {x0:Int} {x1:Int} {x2:Int} {x3:ByteArray} {x4:Int} {x5:Int} (h0:InI x0) (h1:InI x1) (h2:InI x2) (h3:x3.size≤maxLen) (h4:InI x4) (h5:InI x5):Dat.OwnVals w ([]) (TValue.mk x0 x1 x2 x3 x4 x5).D [.int .i64 x0,.int .i64 x1,.int .i64 x2,.string x3,.int .i64 x4,.int .i64 x5]:=by
 rw[TValue.D_mk]
 exact⟨[],_,(List.nil_append _).symm,Dat.own_int.2 ⟨rfl,rfl,h0⟩,⟨[],_,(List.nil_append _).symm,Dat.own_int.2 ⟨rfl,rfl,h1⟩,⟨[],_,(List.nil_append _).symm,Dat.own_int.2 ⟨rfl,rfl,h2⟩,⟨[],_,(List.nil_append _).symm,Dat.own_str.2 ⟨rfl,rfl,h3⟩,⟨[],_,(List.nil_append _).symm,Dat.own_int.2 ⟨rfl,rfl,h4⟩,⟨[],_,(List.nil_append _).symm,Dat.own_int.2 ⟨rfl,rfl,h5⟩,rfl⟩⟩⟩⟩⟩⟩
end Go.Proofs.YtehcjlkgfgpjnaaGreatDoor
namespace Go.Proofs.YtehcjlkgfgpjnaaGreatDoor
set_option linter.unusedVariables false
set_option linter.unusedSimpArgs false
set_option maxRecDepth 100000
open Go.RowKit
theorem TObject.own_mk {w:World} {x0:Int} {x1:Int} {x2:Int} {x3:List TValue} {x4:List TValue} {A3:Option Addr} {c3:Nat} {L3:List Nat} {A4:Option Addr} {c4:Nat} {L4:List Nat} (h0:InI x0) (h1:InI x1) (h2:InI x2) (h3:OwnRow w L3 6 A3 c3 (x3.map TValue.D)) (h4:OwnRow w L4 6 A4 c4 (x4.map TValue.D)):Dat.OwnVals w (L3++L4) (TObject.mk x0 x1 x2 x3 x4).D [.int .i64 x0,.int .i64 x1,.int .i64 x2,.slice A3 x3.length c3,.slice A4 x4.length c4]:=by
 rw[TObject.D_mk]
 exact⟨[],_,(List.nil_append _).symm,Dat.own_int.2 ⟨rfl,rfl,h0⟩,⟨[],_,(List.nil_append _).symm,Dat.own_int.2 ⟨rfl,rfl,h1⟩,⟨[],_,(List.nil_append _).symm,Dat.own_int.2 ⟨rfl,rfl,h2⟩,⟨L3,_,rfl,Dat.own_row.2 ⟨_,_,by simp only[List.length_map],h3⟩,⟨L4,_,(List.append_nil _).symm,Dat.own_row.2 ⟨_,_,by simp only[List.length_map],h4⟩,rfl⟩⟩⟩⟩⟩
end Go.Proofs.YtehcjlkgfgpjnaaGreatDoor
namespace Go.Proofs.YtehcjlkgfgpjnaaGreatDoor
set_option linter.unusedVariables false
set_option linter.unusedSimpArgs false
set_option maxRecDepth 100000
open Go.RowKit
theorem TActive.own_mk {w:World} {x0:Int} {x1:Int} (h0:InI x0) (h1:InI x1):Dat.OwnVals w ([]) (TActive.mk x0 x1).D [.int .i64 x0,.int .i64 x1]:=by
 rw[TActive.D_mk]
 exact⟨[],_,(List.nil_append _).symm,Dat.own_int.2 ⟨rfl,rfl,h0⟩,⟨[],_,(List.nil_append _).symm,Dat.own_int.2 ⟨rfl,rfl,h1⟩,rfl⟩⟩
end Go.Proofs.YtehcjlkgfgpjnaaGreatDoor
