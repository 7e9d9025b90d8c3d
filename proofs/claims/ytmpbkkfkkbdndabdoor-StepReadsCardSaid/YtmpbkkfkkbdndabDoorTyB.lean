/- Facts on the types of the program. -/
import Derived.Test.YtmpbkkfkkbdndabDoorLv6
import Derived.KernelRfl
import Derived.Test.YtmpbkkfkkbdndabDoorProg
namespace Go.Lv
open Go Go.Proofs
set_option maxRecDepth 100000
theorem ty1 : ty Tryd.prog 1 = .func := by kernel_rfl
theorem sz1 : szOf Tryd.prog 1 = 1 := by kernel_rfl
theorem z1 : zcells Tryd.prog 1 = [.nilf] := by kernel_rfl
theorem ty2 : ty Tryd.prog 2 = .int .i64 := by kernel_rfl
theorem sz2 : szOf Tryd.prog 2 = 1 := by kernel_rfl
theorem z2 : zcells Tryd.prog 2 = [.int .i64 0] := by kernel_rfl
theorem ty3 : ty Tryd.prog 3 = .int .i64 := by kernel_rfl
theorem sz3 : szOf Tryd.prog 3 = 1 := by kernel_rfl
theorem z3 : zcells Tryd.prog 3 = [.int .i64 0] := by kernel_rfl
theorem ty4 : ty Tryd.prog 4 = .bool := by kernel_rfl
theorem sz4 : szOf Tryd.prog 4 = 1 := by kernel_rfl
theorem z4 : zcells Tryd.prog 4 = [.bool false] := by kernel_rfl
theorem ty5 : ty Tryd.prog 5 = .int .u8 := by kernel_rfl
theorem sz5 : szOf Tryd.prog 5 = 1 := by kernel_rfl
theorem z5 : zcells Tryd.prog 5 = [.int .u8 0] := by kernel_rfl
theorem ty6 : ty Tryd.prog 6 = .int .u8 := by kernel_rfl
theorem sz6 : szOf Tryd.prog 6 = 1 := by kernel_rfl
theorem z6 : zcells Tryd.prog 6 = [.int .u8 0] := by kernel_rfl
theorem ty7 : ty Tryd.prog 7 = .struct [⟨0, 1, false⟩, ⟨1, 1, false⟩, ⟨2, 1, false⟩, ⟨3, 1, false⟩] := by kernel_rfl
theorem sz7 : szOf Tryd.prog 7 = 4 := by kernel_rfl
theorem z7 : zcells Tryd.prog 7 = [.int .i64 0, .int .i64 0, .bool false, .int .u8 0] := by kernel_rfl
theorem ty8 : ty Tryd.prog 8 = .struct [⟨0, 1, false⟩, ⟨1, 1, false⟩, ⟨2, 1, false⟩, ⟨3, 1, false⟩] := by kernel_rfl
theorem sz8 : szOf Tryd.prog 8 = 4 := by kernel_rfl
theorem z8 : zcells Tryd.prog 8 = [.int .i64 0, .int .i64 0, .bool false, .int .u8 0] := by kernel_rfl
theorem ty9 : ty Tryd.prog 9 = .str := by kernel_rfl
theorem sz9 : szOf Tryd.prog 9 = 1 := by kernel_rfl
theorem z9 : zcells Tryd.prog 9 = [.str []] := by kernel_rfl
theorem ty10 : ty Tryd.prog 10 = .str := by kernel_rfl
theorem sz10 : szOf Tryd.prog 10 = 1 := by kernel_rfl
theorem z10 : zcells Tryd.prog 10 = [.str []] := by kernel_rfl
theorem ty11 : ty Tryd.prog 11 = .str := by kernel_rfl
theorem sz11 : szOf Tryd.prog 11 = 1 := by kernel_rfl
theorem z11 : zcells Tryd.prog 11 = [.str []] := by kernel_rfl
theorem ty12 : ty Tryd.prog 12 = .int .u64 := by kernel_rfl
theorem sz12 : szOf Tryd.prog 12 = 1 := by kernel_rfl
theorem z12 : zcells Tryd.prog 12 = [.int .u64 0] := by kernel_rfl
theorem ty13 : ty Tryd.prog 13 = .struct [⟨0, 1, false⟩, ⟨1, 1, false⟩] := by kernel_rfl
theorem sz13 : szOf Tryd.prog 13 = 2 := by kernel_rfl
theorem z13 : zcells Tryd.prog 13 = [.str [], .int .u64 0] := by kernel_rfl
theorem ty14 : ty Tryd.prog 14 = .struct [⟨0, 1, false⟩, ⟨1, 1, false⟩] := by kernel_rfl
theorem sz14 : szOf Tryd.prog 14 = 2 := by kernel_rfl
theorem z14 : zcells Tryd.prog 14 = [.str [], .int .u64 0] := by kernel_rfl
theorem ty15 : ty Tryd.prog 15 = .ptr := by kernel_rfl
theorem sz15 : szOf Tryd.prog 15 = 1 := by kernel_rfl
theorem z15 : zcells Tryd.prog 15 = [.nilp] := by kernel_rfl
theorem ty16 : ty Tryd.prog 16 = .ptr := by kernel_rfl
theorem sz16 : szOf Tryd.prog 16 = 1 := by kernel_rfl
theorem z16 : zcells Tryd.prog 16 = [.nilp] := by kernel_rfl
theorem ty17 : ty Tryd.prog 17 = .ptr := by kernel_rfl
theorem sz17 : szOf Tryd.prog 17 = 1 := by kernel_rfl
theorem z17 : zcells Tryd.prog 17 = [.nilp] := by kernel_rfl
theorem ty18 : ty Tryd.prog 18 = .struct [⟨0, 1, false⟩] := by kernel_rfl
theorem sz18 : szOf Tryd.prog 18 = 1 := by kernel_rfl
theorem z18 : zcells Tryd.prog 18 = [.nilp] := by kernel_rfl
theorem ty19 : ty Tryd.prog 19 = .struct [⟨0, 1, false⟩] := by kernel_rfl
theorem sz19 : szOf Tryd.prog 19 = 1 := by kernel_rfl
theorem z19 : zcells Tryd.prog 19 = [.nilp] := by kernel_rfl
theorem ty20 : ty Tryd.prog 20 = .iface := by kernel_rfl
theorem sz20 : szOf Tryd.prog 20 = 1 := by kernel_rfl
theorem z20 : zcells Tryd.prog 20 = [.nili] := by kernel_rfl
theorem ty21 : ty Tryd.prog 21 = .int .i32 := by kernel_rfl
theorem sz21 : szOf Tryd.prog 21 = 1 := by kernel_rfl
theorem z21 : zcells Tryd.prog 21 = [.int .i32 0] := by kernel_rfl
theorem ty22 : ty Tryd.prog 22 = .slice 29 6 48 true := by kernel_rfl
theorem sz22 : szOf Tryd.prog 22 = 1 := by kernel_rfl
theorem z22 : zcells Tryd.prog 22 = [.list true []] := by kernel_rfl
theorem ty23 : ty Tryd.prog 23 = .struct [⟨0, 1, false⟩, ⟨1, 1, false⟩] := by kernel_rfl
theorem sz23 : szOf Tryd.prog 23 = 2 := by kernel_rfl
theorem z23 : zcells Tryd.prog 23 = [.str [], .list true []] := by kernel_rfl
theorem ty24 : ty Tryd.prog 24 = .struct [⟨0, 1, false⟩, ⟨1, 1, false⟩] := by kernel_rfl
theorem sz24 : szOf Tryd.prog 24 = 2 := by kernel_rfl
theorem z24 : zcells Tryd.prog 24 = [.str [], .list true []] := by kernel_rfl
theorem ty25 : ty Tryd.prog 25 = .func := by kernel_rfl
theorem sz25 : szOf Tryd.prog 25 = 1 := by kernel_rfl
theorem z25 : zcells Tryd.prog 25 = [.nilf] := by kernel_rfl
theorem ty26 : ty Tryd.prog 26 = .func := by kernel_rfl
theorem sz26 : szOf Tryd.prog 26 = 1 := by kernel_rfl
theorem z26 : zcells Tryd.prog 26 = [.nilf] := by kernel_rfl
theorem ty27 : ty Tryd.prog 27 = .func := by kernel_rfl
theorem sz27 : szOf Tryd.prog 27 = 1 := by kernel_rfl
theorem z27 : zcells Tryd.prog 27 = [.nilf] := by kernel_rfl
theorem ty28 : ty Tryd.prog 28 = .struct [⟨0, 1, false⟩, ⟨1, 1, false⟩, ⟨2, 1, false⟩, ⟨3, 1, false⟩, ⟨4, 1, false⟩, ⟨5, 1, false⟩] := by kernel_rfl
theorem sz28 : szOf Tryd.prog 28 = 6 := by kernel_rfl
theorem z28 : zcells Tryd.prog 28 = [.int .i64 0, .int .i64 0, .int .i64 0, .int .i64 0, .int .i64 0, .int .i64 0] := by kernel_rfl
theorem k28 : kindsA Tryd.prog 28 = some [.i, .i, .i, .i, .i, .i] := by kernel_rfl
theorem ty29 : ty Tryd.prog 29 = .struct [⟨0, 1, false⟩, ⟨1, 1, false⟩, ⟨2, 1, false⟩, ⟨3, 1, false⟩, ⟨4, 1, false⟩, ⟨5, 1, false⟩] := by kernel_rfl
theorem sz29 : szOf Tryd.prog 29 = 6 := by kernel_rfl
theorem z29 : zcells Tryd.prog 29 = [.int .i64 0, .int .i64 0, .int .i64 0, .int .i64 0, .int .i64 0, .int .i64 0] := by kernel_rfl
theorem k29 : kindsA Tryd.prog 29 = some [.i, .i, .i, .i, .i, .i] := by kernel_rfl
theorem ty30 : ty Tryd.prog 30 = .int .i64 := by kernel_rfl
theorem sz30 : szOf Tryd.prog 30 = 1 := by kernel_rfl
theorem z30 : zcells Tryd.prog 30 = [.int .i64 0] := by kernel_rfl
theorem ty32 : ty Tryd.prog 32 = .func := by kernel_rfl
theorem sz32 : szOf Tryd.prog 32 = 1 := by kernel_rfl
theorem z32 : zcells Tryd.prog 32 = [.nilf] := by kernel_rfl
theorem ty33 : ty Tryd.prog 33 = .func := by kernel_rfl
theorem sz33 : szOf Tryd.prog 33 = 1 := by kernel_rfl
theorem z33 : zcells Tryd.prog 33 = [.nilf] := by kernel_rfl
theorem ty34 : ty Tryd.prog 34 = .func := by kernel_rfl
theorem sz34 : szOf Tryd.prog 34 = 1 := by kernel_rfl
theorem z34 : zcells Tryd.prog 34 = [.nilf] := by kernel_rfl
theorem ty35 : ty Tryd.prog 35 = .func := by kernel_rfl
theorem sz35 : szOf Tryd.prog 35 = 1 := by kernel_rfl
theorem z35 : zcells Tryd.prog 35 = [.nilf] := by kernel_rfl
theorem ty36 : ty Tryd.prog 36 = .func := by kernel_rfl
theorem sz36 : szOf Tryd.prog 36 = 1 := by kernel_rfl
theorem z36 : zcells Tryd.prog 36 = [.nilf] := by kernel_rfl
theorem ty37 : ty Tryd.prog 37 = .func := by kernel_rfl
theorem sz37 : szOf Tryd.prog 37 = 1 := by kernel_rfl
theorem z37 : zcells Tryd.prog 37 = [.nilf] := by kernel_rfl
theorem ty38 : ty Tryd.prog 38 = .func := by kernel_rfl
theorem sz38 : szOf Tryd.prog 38 = 1 := by kernel_rfl
theorem z38 : zcells Tryd.prog 38 = [.nilf] := by kernel_rfl
theorem ty40 : ty Tryd.prog 40 = .func := by kernel_rfl
theorem sz40 : szOf Tryd.prog 40 = 1 := by kernel_rfl
theorem z40 : zcells Tryd.prog 40 = [.nilf] := by kernel_rfl
theorem ty41 : ty Tryd.prog 41 = .ptr := by kernel_rfl
theorem sz41 : szOf Tryd.prog 41 = 1 := by kernel_rfl
theorem z41 : zcells Tryd.prog 41 = [.nilp] := by kernel_rfl
theorem ty42 : ty Tryd.prog 42 = .func := by kernel_rfl
theorem sz42 : szOf Tryd.prog 42 = 1 := by kernel_rfl
theorem z42 : zcells Tryd.prog 42 = [.nilf] := by kernel_rfl
theorem ty43 : ty Tryd.prog 43 = .ptr := by kernel_rfl
theorem sz43 : szOf Tryd.prog 43 = 1 := by kernel_rfl
theorem z43 : zcells Tryd.prog 43 = [.nilp] := by kernel_rfl
theorem ty44 : ty Tryd.prog 44 = .struct [⟨0, 1, false⟩, ⟨1, 1, false⟩] := by kernel_rfl
theorem sz44 : szOf Tryd.prog 44 = 2 := by kernel_rfl
theorem z44 : zcells Tryd.prog 44 = [.str [], .bool false] := by kernel_rfl
theorem k44 : kindsA Tryd.prog 44 = some [.s, .b] := by kernel_rfl
theorem ty45 : ty Tryd.prog 45 = .struct [⟨0, 1, false⟩, ⟨1, 1, false⟩] := by kernel_rfl
theorem sz45 : szOf Tryd.prog 45 = 2 := by kernel_rfl
theorem z45 : zcells Tryd.prog 45 = [.str [], .bool false] := by kernel_rfl
theorem k45 : kindsA Tryd.prog 45 = some [.s, .b] := by kernel_rfl
theorem ty46 : ty Tryd.prog 46 = .func := by kernel_rfl
theorem sz46 : szOf Tryd.prog 46 = 1 := by kernel_rfl
theorem z46 : zcells Tryd.prog 46 = [.nilf] := by kernel_rfl
theorem ty47 : ty Tryd.prog 47 = .func := by kernel_rfl
theorem sz47 : szOf Tryd.prog 47 = 1 := by kernel_rfl
theorem z47 : zcells Tryd.prog 47 = [.nilf] := by kernel_rfl
theorem ty48 : ty Tryd.prog 48 = .func := by kernel_rfl
theorem sz48 : szOf Tryd.prog 48 = 1 := by kernel_rfl
theorem z48 : zcells Tryd.prog 48 = [.nilf] := by kernel_rfl
theorem ty49 : ty Tryd.prog 49 = .func := by kernel_rfl
theorem sz49 : szOf Tryd.prog 49 = 1 := by kernel_rfl
theorem z49 : zcells Tryd.prog 49 = [.nilf] := by kernel_rfl
theorem ty50 : ty Tryd.prog 50 = .slice 25 1 8 false := by kernel_rfl
theorem sz50 : szOf Tryd.prog 50 = 1 := by kernel_rfl
theorem z50 : zcells Tryd.prog 50 = [.list true []] := by kernel_rfl
theorem ty51 : ty Tryd.prog 51 = .func := by kernel_rfl
theorem sz51 : szOf Tryd.prog 51 = 1 := by kernel_rfl
theorem z51 : zcells Tryd.prog 51 = [.nilf] := by kernel_rfl
theorem ty52 : ty Tryd.prog 52 = .slice 24 2 40 true := by kernel_rfl
theorem sz52 : szOf Tryd.prog 52 = 1 := by kernel_rfl
theorem z52 : zcells Tryd.prog 52 = [.list true []] := by kernel_rfl
theorem ty53 : ty Tryd.prog 53 = .func := by kernel_rfl
theorem sz53 : szOf Tryd.prog 53 = 1 := by kernel_rfl
theorem z53 : zcells Tryd.prog 53 = [.nilf] := by kernel_rfl
theorem ty54 : ty Tryd.prog 54 = .func := by kernel_rfl
theorem sz54 : szOf Tryd.prog 54 = 1 := by kernel_rfl
theorem z54 : zcells Tryd.prog 54 = [.nilf] := by kernel_rfl
theorem ty55 : ty Tryd.prog 55 = .func := by kernel_rfl
theorem sz55 : szOf Tryd.prog 55 = 1 := by kernel_rfl
theorem z55 : zcells Tryd.prog 55 = [.nilf] := by kernel_rfl
theorem ty56 : ty Tryd.prog 56 = .slice 9 1 16 false := by kernel_rfl
theorem sz56 : szOf Tryd.prog 56 = 1 := by kernel_rfl
theorem z56 : zcells Tryd.prog 56 = [.list true []] := by kernel_rfl
theorem ty57 : ty Tryd.prog 57 = .func := by kernel_rfl
theorem sz57 : szOf Tryd.prog 57 = 1 := by kernel_rfl
theorem z57 : zcells Tryd.prog 57 = [.nilf] := by kernel_rfl
theorem ty58 : ty Tryd.prog 58 = .arr 7 1 false := by kernel_rfl
theorem sz58 : szOf Tryd.prog 58 = 7 := by kernel_rfl
theorem z58 : zcells Tryd.prog 58 = [.str [], .str [], .str [], .str [], .str [], .str [], .str []] := by kernel_rfl
theorem k58 : kindsA Tryd.prog 58 = some [.s, .s, .s, .s, .s, .s, .s] := by kernel_rfl
theorem ty59 : ty Tryd.prog 59 = .func := by kernel_rfl
theorem sz59 : szOf Tryd.prog 59 = 1 := by kernel_rfl
theorem z59 : zcells Tryd.prog 59 = [.nilf] := by kernel_rfl
theorem ty60 : ty Tryd.prog 60 = .arr 4 1 false := by kernel_rfl
theorem sz60 : szOf Tryd.prog 60 = 4 := by kernel_rfl
theorem z60 : zcells Tryd.prog 60 = [.str [], .str [], .str [], .str []] := by kernel_rfl
theorem k60 : kindsA Tryd.prog 60 = some [.s, .s, .s, .s] := by kernel_rfl
theorem ty61 : ty Tryd.prog 61 = .func := by kernel_rfl
theorem sz61 : szOf Tryd.prog 61 = 1 := by kernel_rfl
theorem z61 : zcells Tryd.prog 61 = [.nilf] := by kernel_rfl
theorem ty62 : ty Tryd.prog 62 = .func := by kernel_rfl
theorem sz62 : szOf Tryd.prog 62 = 1 := by kernel_rfl
theorem z62 : zcells Tryd.prog 62 = [.nilf] := by kernel_rfl
theorem ty63 : ty Tryd.prog 63 = .ptr := by kernel_rfl
theorem sz63 : szOf Tryd.prog 63 = 1 := by kernel_rfl
theorem z63 : zcells Tryd.prog 63 = [.nilp] := by kernel_rfl
theorem ty64 : ty Tryd.prog 64 = .slice 63 1 8 false := by kernel_rfl
theorem sz64 : szOf Tryd.prog 64 = 1 := by kernel_rfl
theorem z64 : zcells Tryd.prog 64 = [.list true []] := by kernel_rfl
theorem ty66 : ty Tryd.prog 66 = .func := by kernel_rfl
theorem sz66 : szOf Tryd.prog 66 = 1 := by kernel_rfl
theorem z66 : zcells Tryd.prog 66 = [.nilf] := by kernel_rfl
theorem ty67 : ty Tryd.prog 67 = .func := by kernel_rfl
theorem sz67 : szOf Tryd.prog 67 = 1 := by kernel_rfl
theorem z67 : zcells Tryd.prog 67 = [.nilf] := by kernel_rfl
theorem ty68 : ty Tryd.prog 68 = .func := by kernel_rfl
theorem sz68 : szOf Tryd.prog 68 = 1 := by kernel_rfl
theorem z68 : zcells Tryd.prog 68 = [.nilf] := by kernel_rfl
theorem ty69 : ty Tryd.prog 69 = .func := by kernel_rfl
theorem sz69 : szOf Tryd.prog 69 = 1 := by kernel_rfl
theorem z69 : zcells Tryd.prog 69 = [.nilf] := by kernel_rfl
theorem ty70 : ty Tryd.prog 70 = .slice 3 1 8 false := by kernel_rfl
theorem sz70 : szOf Tryd.prog 70 = 1 := by kernel_rfl
theorem z70 : zcells Tryd.prog 70 = [.list true []] := by kernel_rfl
theorem ty71 : ty Tryd.prog 71 = .func := by kernel_rfl
theorem sz71 : szOf Tryd.prog 71 = 1 := by kernel_rfl
theorem z71 : zcells Tryd.prog 71 = [.nilf] := by kernel_rfl
theorem ty72 : ty Tryd.prog 72 = .func := by kernel_rfl
theorem sz72 : szOf Tryd.prog 72 = 1 := by kernel_rfl
theorem z72 : zcells Tryd.prog 72 = [.nilf] := by kernel_rfl
theorem ty73 : ty Tryd.prog 73 = .func := by kernel_rfl
theorem sz73 : szOf Tryd.prog 73 = 1 := by kernel_rfl
theorem z73 : zcells Tryd.prog 73 = [.nilf] := by kernel_rfl
theorem ty75 : ty Tryd.prog 75 = .func := by kernel_rfl
theorem sz75 : szOf Tryd.prog 75 = 1 := by kernel_rfl
theorem z75 : zcells Tryd.prog 75 = [.nilf] := by kernel_rfl
theorem ty76 : ty Tryd.prog 76 = .func := by kernel_rfl
theorem sz76 : szOf Tryd.prog 76 = 1 := by kernel_rfl
theorem z76 : zcells Tryd.prog 76 = [.nilf] := by kernel_rfl
theorem ty77 : ty Tryd.prog 77 = .func := by kernel_rfl
theorem sz77 : szOf Tryd.prog 77 = 1 := by kernel_rfl
theorem z77 : zcells Tryd.prog 77 = [.nilf] := by kernel_rfl
theorem ty78 : ty Tryd.prog 78 = .func := by kernel_rfl
theorem sz78 : szOf Tryd.prog 78 = 1 := by kernel_rfl
theorem z78 : zcells Tryd.prog 78 = [.nilf] := by kernel_rfl
theorem ty79 : ty Tryd.prog 79 = .struct [⟨0, 1, false⟩, ⟨1, 1, false⟩] := by kernel_rfl
theorem sz79 : szOf Tryd.prog 79 = 2 := by kernel_rfl
theorem z79 : zcells Tryd.prog 79 = [.str [], .bool false] := by kernel_rfl
theorem k79 : kindsA Tryd.prog 79 = some [.s, .b] := by kernel_rfl
theorem ty80 : ty Tryd.prog 80 = .struct [⟨0, 1, false⟩, ⟨1, 1, false⟩] := by kernel_rfl
theorem sz80 : szOf Tryd.prog 80 = 2 := by kernel_rfl
theorem z80 : zcells Tryd.prog 80 = [.str [], .bool false] := by kernel_rfl
theorem k80 : kindsA Tryd.prog 80 = some [.s, .b] := by kernel_rfl
theorem ty81 : ty Tryd.prog 81 = .func := by kernel_rfl
theorem sz81 : szOf Tryd.prog 81 = 1 := by kernel_rfl
theorem z81 : zcells Tryd.prog 81 = [.nilf] := by kernel_rfl
theorem ty82 : ty Tryd.prog 82 = .func := by kernel_rfl
theorem sz82 : szOf Tryd.prog 82 = 1 := by kernel_rfl
theorem z82 : zcells Tryd.prog 82 = [.nilf] := by kernel_rfl
theorem ty83 : ty Tryd.prog 83 = .func := by kernel_rfl
theorem sz83 : szOf Tryd.prog 83 = 1 := by kernel_rfl
theorem z83 : zcells Tryd.prog 83 = [.nilf] := by kernel_rfl
theorem ty84 : ty Tryd.prog 84 = .func := by kernel_rfl
theorem sz84 : szOf Tryd.prog 84 = 1 := by kernel_rfl
theorem z84 : zcells Tryd.prog 84 = [.nilf] := by kernel_rfl
theorem ty85 : ty Tryd.prog 85 = .func := by kernel_rfl
theorem sz85 : szOf Tryd.prog 85 = 1 := by kernel_rfl
theorem z85 : zcells Tryd.prog 85 = [.nilf] := by kernel_rfl
theorem ty86 : ty Tryd.prog 86 = .ptr := by kernel_rfl
theorem sz86 : szOf Tryd.prog 86 = 1 := by kernel_rfl
theorem z86 : zcells Tryd.prog 86 = [.nilp] := by kernel_rfl
theorem ty87 : ty Tryd.prog 87 = .slice 5 1 1 false := by kernel_rfl
theorem sz87 : szOf Tryd.prog 87 = 1 := by kernel_rfl
theorem z87 : zcells Tryd.prog 87 = [.list true []] := by kernel_rfl
theorem ty88 : ty Tryd.prog 88 = .struct [⟨0, 1, false⟩, ⟨1, 1, false⟩] := by kernel_rfl
theorem sz88 : szOf Tryd.prog 88 = 2 := by kernel_rfl
theorem z88 : zcells Tryd.prog 88 = [.nilp, .list true []] := by kernel_rfl
theorem ty89 : ty Tryd.prog 89 = .struct [⟨0, 1, false⟩, ⟨1, 1, false⟩] := by kernel_rfl
theorem sz89 : szOf Tryd.prog 89 = 2 := by kernel_rfl
theorem z89 : zcells Tryd.prog 89 = [.nilp, .list true []] := by kernel_rfl
theorem ty90 : ty Tryd.prog 90 = .func := by kernel_rfl
theorem sz90 : szOf Tryd.prog 90 = 1 := by kernel_rfl
theorem z90 : zcells Tryd.prog 90 = [.nilf] := by kernel_rfl
theorem ty91 : ty Tryd.prog 91 = .iface := by kernel_rfl
theorem sz91 : szOf Tryd.prog 91 = 1 := by kernel_rfl
theorem z91 : zcells Tryd.prog 91 = [.nili] := by kernel_rfl
theorem ty92 : ty Tryd.prog 92 = .iface := by kernel_rfl
theorem sz92 : szOf Tryd.prog 92 = 1 := by kernel_rfl
theorem z92 : zcells Tryd.prog 92 = [.nili] := by kernel_rfl
theorem ty94 : ty Tryd.prog 94 = .func := by kernel_rfl
theorem sz94 : szOf Tryd.prog 94 = 1 := by kernel_rfl
theorem z94 : zcells Tryd.prog 94 = [.nilf] := by kernel_rfl
theorem ty95 : ty Tryd.prog 95 = .func := by kernel_rfl
theorem sz95 : szOf Tryd.prog 95 = 1 := by kernel_rfl
theorem z95 : zcells Tryd.prog 95 = [.nilf] := by kernel_rfl
theorem ty96 : ty Tryd.prog 96 = .func := by kernel_rfl
theorem sz96 : szOf Tryd.prog 96 = 1 := by kernel_rfl
theorem z96 : zcells Tryd.prog 96 = [.nilf] := by kernel_rfl
theorem ty97 : ty Tryd.prog 97 = .func := by kernel_rfl
theorem sz97 : szOf Tryd.prog 97 = 1 := by kernel_rfl
theorem z97 : zcells Tryd.prog 97 = [.nilf] := by kernel_rfl
theorem ty98 : ty Tryd.prog 98 = .func := by kernel_rfl
theorem sz98 : szOf Tryd.prog 98 = 1 := by kernel_rfl
theorem z98 : zcells Tryd.prog 98 = [.nilf] := by kernel_rfl
theorem ty100 : ty Tryd.prog 100 = .func := by kernel_rfl
theorem sz100 : szOf Tryd.prog 100 = 1 := by kernel_rfl
theorem z100 : zcells Tryd.prog 100 = [.nilf] := by kernel_rfl
theorem ty101 : ty Tryd.prog 101 = .func := by kernel_rfl
theorem sz101 : szOf Tryd.prog 101 = 1 := by kernel_rfl
theorem z101 : zcells Tryd.prog 101 = [.nilf] := by kernel_rfl
theorem ty102 : ty Tryd.prog 102 = .func := by kernel_rfl
theorem sz102 : szOf Tryd.prog 102 = 1 := by kernel_rfl
theorem z102 : zcells Tryd.prog 102 = [.nilf] := by kernel_rfl
theorem ty103 : ty Tryd.prog 103 = .func := by kernel_rfl
theorem sz103 : szOf Tryd.prog 103 = 1 := by kernel_rfl
theorem z103 : zcells Tryd.prog 103 = [.nilf] := by kernel_rfl
theorem ty104 : ty Tryd.prog 104 = .func := by kernel_rfl
theorem sz104 : szOf Tryd.prog 104 = 1 := by kernel_rfl
theorem z104 : zcells Tryd.prog 104 = [.nilf] := by kernel_rfl
theorem ty105 : ty Tryd.prog 105 = .func := by kernel_rfl
theorem sz105 : szOf Tryd.prog 105 = 1 := by kernel_rfl
theorem z105 : zcells Tryd.prog 105 = [.nilf] := by kernel_rfl
theorem ty106 : ty Tryd.prog 106 = .func := by kernel_rfl
theorem sz106 : szOf Tryd.prog 106 = 1 := by kernel_rfl
theorem z106 : zcells Tryd.prog 106 = [.nilf] := by kernel_rfl
theorem ty107 : ty Tryd.prog 107 = .ptr := by kernel_rfl
theorem sz107 : szOf Tryd.prog 107 = 1 := by kernel_rfl
theorem z107 : zcells Tryd.prog 107 = [.nilp] := by kernel_rfl
theorem ty109 : ty Tryd.prog 109 = .func := by kernel_rfl
theorem sz109 : szOf Tryd.prog 109 = 1 := by kernel_rfl
theorem z109 : zcells Tryd.prog 109 = [.nilf] := by kernel_rfl
theorem ty111 : ty Tryd.prog 111 = .func := by kernel_rfl
theorem sz111 : szOf Tryd.prog 111 = 1 := by kernel_rfl
theorem z111 : zcells Tryd.prog 111 = [.nilf] := by kernel_rfl
theorem ty112 : ty Tryd.prog 112 = .func := by kernel_rfl
theorem sz112 : szOf Tryd.prog 112 = 1 := by kernel_rfl
theorem z112 : zcells Tryd.prog 112 = [.nilf] := by kernel_rfl
theorem ty113 : ty Tryd.prog 113 = .int .u64 := by kernel_rfl
theorem sz113 : szOf Tryd.prog 113 = 1 := by kernel_rfl
theorem z113 : zcells Tryd.prog 113 = [.int .u64 0] := by kernel_rfl
theorem ty114 : ty Tryd.prog 114 = .int .u64 := by kernel_rfl
theorem sz114 : szOf Tryd.prog 114 = 1 := by kernel_rfl
theorem z114 : zcells Tryd.prog 114 = [.int .u64 0] := by kernel_rfl
theorem ty115 : ty Tryd.prog 115 = .func := by kernel_rfl
theorem sz115 : szOf Tryd.prog 115 = 1 := by kernel_rfl
theorem z115 : zcells Tryd.prog 115 = [.nilf] := by kernel_rfl
theorem ty116 : ty Tryd.prog 116 = .func := by kernel_rfl
theorem sz116 : szOf Tryd.prog 116 = 1 := by kernel_rfl
theorem z116 : zcells Tryd.prog 116 = [.nilf] := by kernel_rfl
theorem ty118 : ty Tryd.prog 118 = .func := by kernel_rfl
theorem sz118 : szOf Tryd.prog 118 = 1 := by kernel_rfl
theorem z118 : zcells Tryd.prog 118 = [.nilf] := by kernel_rfl
theorem ty119 : ty Tryd.prog 119 = .func := by kernel_rfl
theorem sz119 : szOf Tryd.prog 119 = 1 := by kernel_rfl
theorem z119 : zcells Tryd.prog 119 = [.nilf] := by kernel_rfl
theorem ty120 : ty Tryd.prog 120 = .func := by kernel_rfl
theorem sz120 : szOf Tryd.prog 120 = 1 := by kernel_rfl
theorem z120 : zcells Tryd.prog 120 = [.nilf] := by kernel_rfl
theorem ty121 : ty Tryd.prog 121 = .func := by kernel_rfl
theorem sz121 : szOf Tryd.prog 121 = 1 := by kernel_rfl
theorem z121 : zcells Tryd.prog 121 = [.nilf] := by kernel_rfl
theorem ty122 : ty Tryd.prog 122 = .arr 256 1 false := by kernel_rfl
theorem sz122 : szOf Tryd.prog 122 = 256 := by kernel_rfl
theorem z122 : zcells Tryd.prog 122 = [.int .u8 0, .int .u8 0, .int .u8 0, .int .u8 0, .int .u8 0, .int .u8 0, .int .u8 0, .int .u8 0, .int .u8 0, .int .u8 0, .int .u8 0, .int .u8 0, .int .u8 0, .int .u8 0, .int .u8 0, .int .u8 0, .int .u8 0, .int .u8 0, .int .u8 0, .int .u8 0, .int .u8 0, .int .u8 0, .int .u8 0, .int .u8 0, .int .u8 0, .int .u8 0, .int .u8 0, .int .u8 0, .int .u8 0, .int .u8 0, .int .u8 0, .int .u8 0, .int .u8 0, .int .u8 0, .int .u8 0, .int .u8 0, .int .u8 0, .int .u8 0, .int .u8 0, .int .u8 0, .int .u8 0, .int .u8 0, .int .u8 0, .int .u8 0, .int .u8 0, .int .u8 0, .int .u8 0, .int .u8 0, .int .u8 0, .int .u8 0, .int .u8 0, .int .u8 0, .int .u8 0, .int .u8 0, .int .u8 0, .int .u8 0, .int .u8 0, .int .u8 0, .int .u8 0, .int .u8 0, .int .u8 0, .int .u8 0, .int .u8 0, .int .u8 0, .int .u8 0, .int .u8 0, .int .u8 0, .int .u8 0, .int .u8 0, .int .u8 0, .int .u8 0, .int .u8 0, .int .u8 0, .int .u8 0, .int .u8 0, .int .u8 0, .int .u8 0, .int .u8 0, .int .u8 0, .int .u8 0, .int .u8 0, .int .u8 0, .int .u8 0, .int .u8 0, .int .u8 0, .int .u8 0, .int .u8 0, .int .u8 0, .int .u8 0, .int .u8 0, .int .u8 0, .int .u8 0, .int .u8 0, .int .u8 0, .int .u8 0, .int .u8 0, .int .u8 0, .int .u8 0, .int .u8 0, .int .u8 0, .int .u8 0, .int .u8 0, .int .u8 0, .int .u8 0, .int .u8 0, .int .u8 0, .int .u8 0, .int .u8 0, .int .u8 0, .int .u8 0, .int .u8 0, .int .u8 0, .int .u8 0, .int .u8 0, .int .u8 0, .int .u8 0, .int .u8 0, .int .u8 0, .int .u8 0, .int .u8 0, .int .u8 0, .int .u8 0, .int .u8 0, .int .u8 0, .int .u8 0, .int .u8 0, .int .u8 0, .int .u8 0, .int .u8 0, .int .u8 0, .int .u8 0, .int .u8 0, .int .u8 0, .int .u8 0, .int .u8 0, .int .u8 0, .int .u8 0, .int .u8 0, .int .u8 0, .int .u8 0, .int .u8 0, .int .u8 0, .int .u8 0, .int .u8 0, .int .u8 0, .int .u8 0, .int .u8 0, .int .u8 0, .int .u8 0, .int .u8 0, .int .u8 0, .int .u8 0, .int .u8 0, .int .u8 0, .int .u8 0, .int .u8 0, .int .u8 0, .int .u8 0, .int .u8 0, .int .u8 0, .int .u8 0, .int .u8 0, .int .u8 0, .int .u8 0, .int .u8 0, .int .u8 0, .int .u8 0, .int .u8 0, .int .u8 0, .int .u8 0, .int .u8 0, .int .u8 0, .int .u8 0, .int .u8 0, .int .u8 0, .int .u8 0, .int .u8 0, .int .u8 0, .int .u8 0, .int .u8 0, .int .u8 0, .int .u8 0, .int .u8 0, .int .u8 0, .int .u8 0, .int .u8 0, .int .u8 0, .int .u8 0, .int .u8 0, .int .u8 0, .int .u8 0, .int .u8 0, .int .u8 0, .int .u8 0, .int .u8 0, .int .u8 0, .int .u8 0, .int .u8 0, .int .u8 0, .int .u8 0, .int .u8 0, .int .u8 0, .int .u8 0, .int .u8 0, .int .u8 0, .int .u8 0, .int .u8 0, .int .u8 0, .int .u8 0, .int .u8 0, .int .u8 0, .int .u8 0, .int .u8 0, .int .u8 0, .int .u8 0, .int .u8 0, .int .u8 0, .int .u8 0, .int .u8 0, .int .u8 0, .int .u8 0, .int .u8 0, .int .u8 0, .int .u8 0, .int .u8 0, .int .u8 0, .int .u8 0, .int .u8 0, .int .u8 0, .int .u8 0, .int .u8 0, .int .u8 0, .int .u8 0, .int .u8 0, .int .u8 0, .int .u8 0, .int .u8 0, .int .u8 0, .int .u8 0, .int .u8 0, .int .u8 0, .int .u8 0, .int .u8 0, .int .u8 0, .int .u8 0, .int .u8 0, .int .u8 0, .int .u8 0, .int .u8 0, .int .u8 0, .int .u8 0, .int .u8 0, .int .u8 0, .int .u8 0, .int .u8 0, .int .u8 0] := by kernel_rfl
theorem k122 : kindsA Tryd.prog 122 = some [.i, .i, .i, .i, .i, .i, .i, .i, .i, .i, .i, .i, .i, .i, .i, .i, .i, .i, .i, .i, .i, .i, .i, .i, .i, .i, .i, .i, .i, .i, .i, .i, .i, .i, .i, .i, .i, .i, .i, .i, .i, .i, .i, .i, .i, .i, .i, .i, .i, .i, .i, .i, .i, .i, .i, .i, .i, .i, .i, .i, .i, .i, .i, .i, .i, .i, .i, .i, .i, .i, .i, .i, .i, .i, .i, .i, .i, .i, .i, .i, .i, .i, .i, .i, .i, .i, .i, .i, .i, .i, .i, .i, .i, .i, .i, .i, .i, .i, .i, .i, .i, .i, .i, .i, .i, .i, .i, .i, .i, .i, .i, .i, .i, .i, .i, .i, .i, .i, .i, .i, .i, .i, .i, .i, .i, .i, .i, .i, .i, .i, .i, .i, .i, .i, .i, .i, .i, .i, .i, .i, .i, .i, .i, .i, .i, .i, .i, .i, .i, .i, .i, .i, .i, .i, .i, .i, .i, .i, .i, .i, .i, .i, .i, .i, .i, .i, .i, .i, .i, .i, .i, .i, .i, .i, .i, .i, .i, .i, .i, .i, .i, .i, .i, .i, .i, .i, .i, .i, .i, .i, .i, .i, .i, .i, .i, .i, .i, .i, .i, .i, .i, .i, .i, .i, .i, .i, .i, .i, .i, .i, .i, .i, .i, .i, .i, .i, .i, .i, .i, .i, .i, .i, .i, .i, .i, .i, .i, .i, .i, .i, .i, .i, .i, .i, .i, .i, .i, .i, .i, .i, .i, .i, .i, .i, .i, .i, .i, .i, .i, .i, .i, .i, .i, .i, .i, .i] := by kernel_rfl
theorem ty123 : ty Tryd.prog 123 = .struct [⟨0, 1, false⟩, ⟨1, 1, false⟩] := by kernel_rfl
theorem sz123 : szOf Tryd.prog 123 = 2 := by kernel_rfl
theorem z123 : zcells Tryd.prog 123 = [.int .u8 0, .int .u8 0] := by kernel_rfl
theorem k123 : kindsA Tryd.prog 123 = some [.i, .i] := by kernel_rfl
theorem ty124 : ty Tryd.prog 124 = .struct [⟨0, 1, false⟩, ⟨1, 1, false⟩] := by kernel_rfl
theorem sz124 : szOf Tryd.prog 124 = 2 := by kernel_rfl
theorem z124 : zcells Tryd.prog 124 = [.int .u8 0, .int .u8 0] := by kernel_rfl
theorem k124 : kindsA Tryd.prog 124 = some [.i, .i] := by kernel_rfl
theorem ty125 : ty Tryd.prog 125 = .arr 16 2 true := by kernel_rfl
theorem sz125 : szOf Tryd.prog 125 = 32 := by kernel_rfl
theorem z125 : zcells Tryd.prog 125 = [.int .u8 0, .int .u8 0, .int .u8 0, .int .u8 0, .int .u8 0, .int .u8 0, .int .u8 0, .int .u8 0, .int .u8 0, .int .u8 0, .int .u8 0, .int .u8 0, .int .u8 0, .int .u8 0, .int .u8 0, .int .u8 0, .int .u8 0, .int .u8 0, .int .u8 0, .int .u8 0, .int .u8 0, .int .u8 0, .int .u8 0, .int .u8 0, .int .u8 0, .int .u8 0, .int .u8 0, .int .u8 0, .int .u8 0, .int .u8 0, .int .u8 0, .int .u8 0] := by kernel_rfl
theorem k125 : kindsA Tryd.prog 125 = some [.i, .i, .i, .i, .i, .i, .i, .i, .i, .i, .i, .i, .i, .i, .i, .i, .i, .i, .i, .i, .i, .i, .i, .i, .i, .i, .i, .i, .i, .i, .i, .i] := by kernel_rfl
theorem ty126 : ty Tryd.prog 126 = .arr 24 1 false := by kernel_rfl
theorem sz126 : szOf Tryd.prog 126 = 24 := by kernel_rfl
theorem z126 : zcells Tryd.prog 126 = [.int .u8 0, .int .u8 0, .int .u8 0, .int .u8 0, .int .u8 0, .int .u8 0, .int .u8 0, .int .u8 0, .int .u8 0, .int .u8 0, .int .u8 0, .int .u8 0, .int .u8 0, .int .u8 0, .int .u8 0, .int .u8 0, .int .u8 0, .int .u8 0, .int .u8 0, .int .u8 0, .int .u8 0, .int .u8 0, .int .u8 0, .int .u8 0] := by kernel_rfl
theorem k126 : kindsA Tryd.prog 126 = some [.i, .i, .i, .i, .i, .i, .i, .i, .i, .i, .i, .i, .i, .i, .i, .i, .i, .i, .i, .i, .i, .i, .i, .i] := by kernel_rfl
theorem ty127 : ty Tryd.prog 127 = .func := by kernel_rfl
theorem sz127 : szOf Tryd.prog 127 = 1 := by kernel_rfl
theorem z127 : zcells Tryd.prog 127 = [.nilf] := by kernel_rfl
theorem ty128 : ty Tryd.prog 128 = .func := by kernel_rfl
theorem sz128 : szOf Tryd.prog 128 = 1 := by kernel_rfl
theorem z128 : zcells Tryd.prog 128 = [.nilf] := by kernel_rfl
theorem ty130 : ty Tryd.prog 130 = .func := by kernel_rfl
theorem sz130 : szOf Tryd.prog 130 = 1 := by kernel_rfl
theorem z130 : zcells Tryd.prog 130 = [.nilf] := by kernel_rfl
theorem ty131 : ty Tryd.prog 131 = .int .u32 := by kernel_rfl
theorem sz131 : szOf Tryd.prog 131 = 1 := by kernel_rfl
theorem z131 : zcells Tryd.prog 131 = [.int .u32 0] := by kernel_rfl
theorem ty133 : ty Tryd.prog 133 = .func := by kernel_rfl
theorem sz133 : szOf Tryd.prog 133 = 1 := by kernel_rfl
theorem z133 : zcells Tryd.prog 133 = [.nilf] := by kernel_rfl
theorem ty134 : ty Tryd.prog 134 = .func := by kernel_rfl
theorem sz134 : szOf Tryd.prog 134 = 1 := by kernel_rfl
theorem z134 : zcells Tryd.prog 134 = [.nilf] := by kernel_rfl
theorem ty135 : ty Tryd.prog 135 = .func := by kernel_rfl
theorem sz135 : szOf Tryd.prog 135 = 1 := by kernel_rfl
theorem z135 : zcells Tryd.prog 135 = [.nilf] := by kernel_rfl
theorem ty136 : ty Tryd.prog 136 = .arr 20 1 false := by kernel_rfl
theorem sz136 : szOf Tryd.prog 136 = 20 := by kernel_rfl
theorem z136 : zcells Tryd.prog 136 = [.int .u64 0, .int .u64 0, .int .u64 0, .int .u64 0, .int .u64 0, .int .u64 0, .int .u64 0, .int .u64 0, .int .u64 0, .int .u64 0, .int .u64 0, .int .u64 0, .int .u64 0, .int .u64 0, .int .u64 0, .int .u64 0, .int .u64 0, .int .u64 0, .int .u64 0, .int .u64 0] := by kernel_rfl
theorem k136 : kindsA Tryd.prog 136 = some [.i, .i, .i, .i, .i, .i, .i, .i, .i, .i, .i, .i, .i, .i, .i, .i, .i, .i, .i, .i] := by kernel_rfl
theorem ty137 : ty Tryd.prog 137 = .arr 65 1 false := by kernel_rfl
theorem sz137 : szOf Tryd.prog 137 = 65 := by kernel_rfl
theorem z137 : zcells Tryd.prog 137 = [.int .u8 0, .int .u8 0, .int .u8 0, .int .u8 0, .int .u8 0, .int .u8 0, .int .u8 0, .int .u8 0, .int .u8 0, .int .u8 0, .int .u8 0, .int .u8 0, .int .u8 0, .int .u8 0, .int .u8 0, .int .u8 0, .int .u8 0, .int .u8 0, .int .u8 0, .int .u8 0, .int .u8 0, .int .u8 0, .int .u8 0, .int .u8 0, .int .u8 0, .int .u8 0, .int .u8 0, .int .u8 0, .int .u8 0, .int .u8 0, .int .u8 0, .int .u8 0, .int .u8 0, .int .u8 0, .int .u8 0, .int .u8 0, .int .u8 0, .int .u8 0, .int .u8 0, .int .u8 0, .int .u8 0, .int .u8 0, .int .u8 0, .int .u8 0, .int .u8 0, .int .u8 0, .int .u8 0, .int .u8 0, .int .u8 0, .int .u8 0, .int .u8 0, .int .u8 0, .int .u8 0, .int .u8 0, .int .u8 0, .int .u8 0, .int .u8 0, .int .u8 0, .int .u8 0, .int .u8 0, .int .u8 0, .int .u8 0, .int .u8 0, .int .u8 0, .int .u8 0] := by kernel_rfl
theorem k137 : kindsA Tryd.prog 137 = some [.i, .i, .i, .i, .i, .i, .i, .i, .i, .i, .i, .i, .i, .i, .i, .i, .i, .i, .i, .i, .i, .i, .i, .i, .i, .i, .i, .i, .i, .i, .i, .i, .i, .i, .i, .i, .i, .i, .i, .i, .i, .i, .i, .i, .i, .i, .i, .i, .i, .i, .i, .i, .i, .i, .i, .i, .i, .i, .i, .i, .i, .i, .i, .i, .i] := by kernel_rfl
theorem ty138 : ty Tryd.prog 138 = .func := by kernel_rfl
theorem sz138 : szOf Tryd.prog 138 = 1 := by kernel_rfl
theorem z138 : zcells Tryd.prog 138 = [.nilf] := by kernel_rfl
theorem ty139 : ty Tryd.prog 139 = .func := by kernel_rfl
theorem sz139 : szOf Tryd.prog 139 = 1 := by kernel_rfl
theorem z139 : zcells Tryd.prog 139 = [.nilf] := by kernel_rfl
theorem ty140 : ty Tryd.prog 140 = .arr 32 1 false := by kernel_rfl
theorem sz140 : szOf Tryd.prog 140 = 32 := by kernel_rfl
theorem z140 : zcells Tryd.prog 140 = [.int .u8 0, .int .u8 0, .int .u8 0, .int .u8 0, .int .u8 0, .int .u8 0, .int .u8 0, .int .u8 0, .int .u8 0, .int .u8 0, .int .u8 0, .int .u8 0, .int .u8 0, .int .u8 0, .int .u8 0, .int .u8 0, .int .u8 0, .int .u8 0, .int .u8 0, .int .u8 0, .int .u8 0, .int .u8 0, .int .u8 0, .int .u8 0, .int .u8 0, .int .u8 0, .int .u8 0, .int .u8 0, .int .u8 0, .int .u8 0, .int .u8 0, .int .u8 0] := by kernel_rfl
theorem k140 : kindsA Tryd.prog 140 = some [.i, .i, .i, .i, .i, .i, .i, .i, .i, .i, .i, .i, .i, .i, .i, .i, .i, .i, .i, .i, .i, .i, .i, .i, .i, .i, .i, .i, .i, .i, .i, .i] := by kernel_rfl
theorem ty141 : ty Tryd.prog 141 = .arr 64 1 false := by kernel_rfl
theorem sz141 : szOf Tryd.prog 141 = 64 := by kernel_rfl
theorem z141 : zcells Tryd.prog 141 = [.int .u8 0, .int .u8 0, .int .u8 0, .int .u8 0, .int .u8 0, .int .u8 0, .int .u8 0, .int .u8 0, .int .u8 0, .int .u8 0, .int .u8 0, .int .u8 0, .int .u8 0, .int .u8 0, .int .u8 0, .int .u8 0, .int .u8 0, .int .u8 0, .int .u8 0, .int .u8 0, .int .u8 0, .int .u8 0, .int .u8 0, .int .u8 0, .int .u8 0, .int .u8 0, .int .u8 0, .int .u8 0, .int .u8 0, .int .u8 0, .int .u8 0, .int .u8 0, .int .u8 0, .int .u8 0, .int .u8 0, .int .u8 0, .int .u8 0, .int .u8 0, .int .u8 0, .int .u8 0, .int .u8 0, .int .u8 0, .int .u8 0, .int .u8 0, .int .u8 0, .int .u8 0, .int .u8 0, .int .u8 0, .int .u8 0, .int .u8 0, .int .u8 0, .int .u8 0, .int .u8 0, .int .u8 0, .int .u8 0, .int .u8 0, .int .u8 0, .int .u8 0, .int .u8 0, .int .u8 0, .int .u8 0, .int .u8 0, .int .u8 0, .int .u8 0] := by kernel_rfl
theorem k141 : kindsA Tryd.prog 141 = some [.i, .i, .i, .i, .i, .i, .i, .i, .i, .i, .i, .i, .i, .i, .i, .i, .i, .i, .i, .i, .i, .i, .i, .i, .i, .i, .i, .i, .i, .i, .i, .i, .i, .i, .i, .i, .i, .i, .i, .i, .i, .i, .i, .i, .i, .i, .i, .i, .i, .i, .i, .i, .i, .i, .i, .i, .i, .i, .i, .i, .i, .i, .i, .i] := by kernel_rfl
theorem ty142 : ty Tryd.prog 142 = .struct [⟨0, 1, false⟩, ⟨1, 1, false⟩, ⟨2, 1, false⟩, ⟨3, 1, false⟩] := by kernel_rfl
theorem sz142 : szOf Tryd.prog 142 = 4 := by kernel_rfl
theorem z142 : zcells Tryd.prog 142 = [.nilp, .nilp, .nilp, .str []] := by kernel_rfl
theorem ty143 : ty Tryd.prog 143 = .struct [⟨0, 1, false⟩, ⟨1, 1, false⟩, ⟨2, 1, false⟩, ⟨3, 1, false⟩] := by kernel_rfl
theorem sz143 : szOf Tryd.prog 143 = 4 := by kernel_rfl
theorem z143 : zcells Tryd.prog 143 = [.nilp, .nilp, .nilp, .str []] := by kernel_rfl
theorem ty144 : ty Tryd.prog 144 = .arr 0 1 false := by kernel_rfl
theorem sz144 : szOf Tryd.prog 144 = 0 := by kernel_rfl
theorem z144 : zcells Tryd.prog 144 = [] := by kernel_rfl
theorem ty147 : ty Tryd.prog 147 = .int .u8 := by kernel_rfl
theorem sz147 : szOf Tryd.prog 147 = 1 := by kernel_rfl
theorem z147 : zcells Tryd.prog 147 = [.int .u8 0] := by kernel_rfl
theorem ty148 : ty Tryd.prog 148 = .int .u8 := by kernel_rfl
theorem sz148 : szOf Tryd.prog 148 = 1 := by kernel_rfl
theorem z148 : zcells Tryd.prog 148 = [.int .u8 0] := by kernel_rfl
theorem ty149 : ty Tryd.prog 149 = .func := by kernel_rfl
theorem sz149 : szOf Tryd.prog 149 = 1 := by kernel_rfl
theorem z149 : zcells Tryd.prog 149 = [.nilf] := by kernel_rfl
theorem ty150 : ty Tryd.prog 150 = .int .i32 := by kernel_rfl
theorem sz150 : szOf Tryd.prog 150 = 1 := by kernel_rfl
theorem z150 : zcells Tryd.prog 150 = [.int .i32 0] := by kernel_rfl
theorem ty151 : ty Tryd.prog 151 = .int .i32 := by kernel_rfl
theorem sz151 : szOf Tryd.prog 151 = 1 := by kernel_rfl
theorem z151 : zcells Tryd.prog 151 = [.int .i32 0] := by kernel_rfl
theorem ty152 : ty Tryd.prog 152 = .struct [⟨0, 1, false⟩, ⟨1, 1, false⟩, ⟨2, 1, false⟩, ⟨3, 1, false⟩, ⟨4, 1, false⟩, ⟨5, 1, false⟩, ⟨6, 1, false⟩, ⟨7, 1, false⟩, ⟨8, 1, false⟩, ⟨9, 1, false⟩, ⟨10, 1, false⟩] := by kernel_rfl
theorem sz152 : szOf Tryd.prog 152 = 11 := by kernel_rfl
theorem z152 : zcells Tryd.prog 152 = [.int .u64 0, .int .u64 0, .int .u32 0, .int .u8 0, .int .u8 0, .int .u8 0, .int .u8 0, .nilf, .nilp, .int .i32 0, .int .i32 0] := by kernel_rfl
theorem ty153 : ty Tryd.prog 153 = .struct [⟨0, 1, false⟩, ⟨1, 1, false⟩, ⟨2, 1, false⟩, ⟨3, 1, false⟩, ⟨4, 1, false⟩, ⟨5, 1, false⟩, ⟨6, 1, false⟩, ⟨7, 1, false⟩, ⟨8, 1, false⟩, ⟨9, 1, false⟩, ⟨10, 1, false⟩] := by kernel_rfl
theorem sz153 : szOf Tryd.prog 153 = 11 := by kernel_rfl
theorem z153 : zcells Tryd.prog 153 = [.int .u64 0, .int .u64 0, .int .u32 0, .int .u8 0, .int .u8 0, .int .u8 0, .int .u8 0, .nilf, .nilp, .int .i32 0, .int .i32 0] := by kernel_rfl
end Go.Lv
