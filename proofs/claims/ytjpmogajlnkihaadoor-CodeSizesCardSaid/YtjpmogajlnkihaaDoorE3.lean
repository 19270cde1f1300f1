/- Several texts in one. -/
import Derived.Test.YtjpmogajlnkihaaDoorE2
import Derived.Test.YtjpmogajlnkihaaDoorProg
import Derived.KernelRfl
import Derived.Lib.SplitLaws
import Derived.Lib.CutLaws
import Derived.Lib.IndexBytes
import Derived.Lib.ItoaNum
import Derived.Lib.Fields
import Derived.Shelf.LaysM
import Derived.Shelf.Strings.Fields
import Derived.Shelf.Strings.Cut
import Derived.Shelf.Strings.Split
import Derived.Shelf.Strconv.Itoa3
import Derived.WalkKit
import Derived.Test.YtjpmogajlnkihaaDoorRows
import Derived.Lib.Builder
import Derived.Laws.Externs
import Derived.WalkSpells
import Derived.WalkLawsBesides
import Derived.Lib.UnsafeStr
import Derived.Shelf.RegionOpenPlain

set_option linter.unusedSimpArgs false
set_option linter.unusedVariables false
set_option linter.unusedSectionVars false
/- The engine's table of types, printed by a program. -/
namespace Go.Proofs.YtjpmogajlnkihaaDoor.En
open Go
def ty1 : Ty := { desc := .func #[] #[] false, cks := [.func], nbytes := 8 }
def ty2 : Ty := { desc := .int .i64, cks := [(.int .i64)], nbytes := 8 }
def ty3 : Ty := { desc := .int .i64, cks := [(.int .i64)], nbytes := 8 }
def ty4 : Ty := { desc := .bool, cks := [.bool], nbytes := 1 }
def ty5 : Ty := { desc := .int .u8, cks := [(.int .u8)], nbytes := 1 }
def ty6 : Ty := { desc := .int .u8, cks := [(.int .u8)], nbytes := 1 }
def ty7 : Ty := { desc := .struct #[⟨ "x", 2, 0, false, "", "runtime", 0⟩, ⟨ "y", 3, 1, false, "", "runtime", 8⟩, ⟨ "signed", 4, 2, false, "", "runtime", 16⟩, ⟨ "code", 6, 3, false, "", "runtime", 17⟩], cks := [(.int .i64), (.int .i64), .bool, (.int .u8)], nbytes := 24 }
def ty8 : Ty := { desc := .struct #[⟨ "x", 2, 0, false, "", "runtime", 0⟩, ⟨ "y", 3, 1, false, "", "runtime", 8⟩, ⟨ "signed", 4, 2, false, "", "runtime", 16⟩, ⟨ "code", 6, 3, false, "", "runtime", 17⟩], cks := [(.int .i64), (.int .i64), .bool, (.int .u8)], nbytes := 24 }
def ty9 : Ty := { desc := .string, cks := [.str], nbytes := 16 }
def ty10 : Ty := { desc := .string, cks := [.str], nbytes := 16 }
def ty11 : Ty := { desc := .string, cks := [.str], nbytes := 16 }
def ty12 : Ty := { desc := .int .u64, cks := [(.int .u64)], nbytes := 8 }
def ty13 : Ty := { desc := .struct #[⟨ "msg", 9, 0, false, "", "runtime", 0⟩, ⟨ "addr", 12, 1, false, "", "runtime", 16⟩], cks := [.str, (.int .u64)], nbytes := 24 }
def ty14 : Ty := { desc := .struct #[⟨ "msg", 9, 0, false, "", "runtime", 0⟩, ⟨ "addr", 12, 1, false, "", "runtime", 16⟩], cks := [.str, (.int .u64)], nbytes := 24 }
def ty15 : Ty := { desc := .pointer 179, cks := [.ptr], nbytes := 8 }
def ty16 : Ty := { desc := .pointer 182, cks := [.ptr], nbytes := 8 }
def ty17 : Ty := { desc := .pointer 190, cks := [.ptr], nbytes := 8 }
def ty18 : Ty := { desc := .struct #[⟨ "typ", 17, 0, false, "", "internal/runtime/maps", 0⟩], cks := [.ptr], nbytes := 8 }
def ty19 : Ty := { desc := .struct #[⟨ "typ", 17, 0, false, "", "internal/runtime/maps", 0⟩], cks := [.ptr], nbytes := 8 }
def ty20 : Ty := { desc := .interface #[], cks := [.iface], nbytes := 16 }
def ty21 : Ty := { desc := .int .i32, cks := [(.int .i32)], nbytes := 4 }
def ty22 : Ty := { desc := .struct #[⟨ "Op", 3, 0, false, "", "", 0⟩, ⟨ "A", 3, 1, false, "", "", 8⟩, ⟨ "B", 3, 2, false, "", "", 16⟩, ⟨ "C", 3, 3, false, "", "", 24⟩], cks := [(.int .i64), (.int .i64), (.int .i64), (.int .i64)], nbytes := 32, eqb := true }
def ty23 : Ty := { desc := .struct #[⟨ "Op", 3, 0, false, "", "", 0⟩, ⟨ "A", 3, 1, false, "", "", 8⟩, ⟨ "B", 3, 2, false, "", "", 16⟩, ⟨ "C", 3, 3, false, "", "", 24⟩], cks := [(.int .i64), (.int .i64), (.int .i64), (.int .i64)], nbytes := 32, eqb := true }
def ty24 : Ty := { desc := .int .i64, cks := [(.int .i64)], nbytes := 8 }
def ty25 : Ty := { desc := .func #[23] #[24] false, cks := [.func], nbytes := 8 }
def ty26 : Ty := { desc := .func #[] #[4] false, cks := [.func], nbytes := 8 }
def ty27 : Ty := { desc := .func #[23] #[4] false, cks := [.func], nbytes := 8 }
def ty28 : Ty := { desc := .slice 23, cks := [(.slc 23)], nbytes := 24 }
def ty29 : Ty := { desc := .slice 5, cks := [(.bytes 5)], nbytes := 24 }
def ty31 : Ty := { desc := .func #[28] #[29, 24] false, cks := [.func], nbytes := 8 }
def ty32 : Ty := { desc := .func #[29, 29] #[4] false, cks := [.func], nbytes := 8 }
def ty33 : Ty := { desc := .func #[28] #[4] false, cks := [.func], nbytes := 8 }
def ty34 : Ty := { desc := .func #[28] #[9] false, cks := [.func], nbytes := 8 }
def ty36 : Ty := { desc := .func #[9] #[28, 24] false, cks := [.func], nbytes := 8 }
def ty37 : Ty := { desc := .func #[28, 28] #[4] false, cks := [.func], nbytes := 8 }
def ty38 : Ty := { desc := .func #[9] #[4] false, cks := [.func], nbytes := 8 }
def ty39 : Ty := { desc := .func #[85] #[29] true, cks := [.func], nbytes := 8 }
def ty40 : Ty := { desc := .func #[28, 23] #[4] false, cks := [.func], nbytes := 8 }
def ty41 : Ty := { desc := .slice 45, cks := [(.slc 45)], nbytes := 24 }
def ty42 : Ty := { desc := .struct #[⟨ "Package", 3, 0, false, "", "", 0⟩, ⟨ "Class", 3, 1, false, "", "", 8⟩], cks := [(.int .i64), (.int .i64)], nbytes := 16, eqb := true }
def ty43 : Ty := { desc := .struct #[⟨ "Package", 3, 0, false, "", "", 0⟩, ⟨ "Class", 3, 1, false, "", "", 8⟩], cks := [(.int .i64), (.int .i64)], nbytes := 16, eqb := true }
def ty44 : Ty := { desc := .struct #[⟨ "Kind", 3, 0, false, "", "", 0⟩, ⟨ "Class", 43, 1, false, "", "", 8⟩], cks := [(.int .i64), (.int .i64), (.int .i64)], nbytes := 24, eqb := true }
def ty45 : Ty := { desc := .struct #[⟨ "Kind", 3, 0, false, "", "", 0⟩, ⟨ "Class", 43, 1, false, "", "", 8⟩], cks := [(.int .i64), (.int .i64), (.int .i64)], nbytes := 24, eqb := true }
def ty47 : Ty := { desc := .func #[3] #[41, 45, 4] false, cks := [.func], nbytes := 8 }
def ty48 : Ty := { desc := .func #[41, 41] #[4] false, cks := [.func], nbytes := 8 }
def ty49 : Ty := { desc := .func #[3] #[4] false, cks := [.func], nbytes := 8 }
def ty50 : Ty := { desc := .func #[29] #[28, 24] false, cks := [.func], nbytes := 8 }
def ty51 : Ty := { desc := .func #[29] #[4] false, cks := [.func], nbytes := 8 }
def ty52 : Ty := { desc := .func #[28, 29, 9] #[4] false, cks := [.func], nbytes := 8 }
def ty53 : Ty := { desc := .func #[54, 54] #[4] false, cks := [.func], nbytes := 8 }
def ty54 : Ty := { desc := .slice 3, cks := [(.slc 3)], nbytes := 24 }
def ty55 : Ty := { desc := .func #[23, 3] #[54] false, cks := [.func], nbytes := 8 }
def ty56 : Ty := { desc := .func #[23, 3] #[4] false, cks := [.func], nbytes := 8 }
def ty57 : Ty := { desc := .array 3 3, cks := [(.int .i64), (.int .i64), (.int .i64)], nbytes := 24 }
def ty58 : Ty := { desc := .func #[23] #[57] false, cks := [.func], nbytes := 8 }
def ty59 : Ty := { desc := .array 3 3, cks := [(.int .i64), (.int .i64), (.int .i64)], nbytes := 24 }
def ty60 : Ty := { desc := .func #[3] #[59] false, cks := [.func], nbytes := 8 }
def ty62 : Ty := { desc := .func #[3, 3] #[3, 3] false, cks := [.func], nbytes := 8 }
def ty64 : Ty := { desc := .func #[3] #[3, 3, 3] false, cks := [.func], nbytes := 8 }
def ty65 : Ty := { desc := .func #[3, 3, 3] #[24] false, cks := [.func], nbytes := 8 }
def ty66 : Ty := { desc := .int .u64, cks := [(.int .u64)], nbytes := 8 }
def ty67 : Ty := { desc := .func #[23] #[29] false, cks := [.func], nbytes := 8 }
def ty68 : Ty := { desc := .func #[29, 29] #[3] false, cks := [.func], nbytes := 8 }
def ty69 : Ty := { desc := .pointer 71, cks := [.ptr], nbytes := 8 }
def ty70 : Ty := { desc := .struct #[⟨ "addr", 69, 0, false, "", "strings", 0⟩, ⟨ "buf", 29, 1, false, "", "strings", 8⟩], cks := [.bld, (.bytes 5)], nbytes := 32 }
def ty71 : Ty := { desc := .struct #[⟨ "addr", 69, 0, false, "", "strings", 0⟩, ⟨ "buf", 29, 1, false, "", "strings", 8⟩], cks := [.bld, (.bytes 5)], nbytes := 32 }
def ty72 : Ty := { desc := .slice 9, cks := [(.slc 9)], nbytes := 24 }
def ty73 : Ty := { desc := .func #[] #[72] false, cks := [.func], nbytes := 8 }
def ty74 : Ty := { desc := .interface #[("Error", 79)], cks := [.iface], nbytes := 16 }
def ty75 : Ty := { desc := .interface #[("Error", 79)], cks := [.iface], nbytes := 16 }
def ty77 : Ty := { desc := .func #[9] #[3, 75] false, cks := [.func], nbytes := 8 }
def ty78 : Ty := { desc := .func #[3, 3] #[9] false, cks := [.func], nbytes := 8 }
def ty79 : Ty := { desc := .func #[] #[9] false, cks := [.func], nbytes := 8 }
def ty80 : Ty := { desc := .func #[23] #[9] false, cks := [.func], nbytes := 8 }
def ty82 : Ty := { desc := .func #[9, 9] #[9, 9, 4] false, cks := [.func], nbytes := 8 }
def ty84 : Ty := { desc := .func #[9] #[23, 24] false, cks := [.func], nbytes := 8 }
def ty85 : Ty := { desc := .slice 29, cks := [(.slc 29)], nbytes := 24 }
def ty87 : Ty := { desc := .func #[29] #[23, 29, 24] false, cks := [.func], nbytes := 8 }
def ty88 : Ty := { desc := .func #[3] #[3] false, cks := [.func], nbytes := 8 }
def ty89 : Ty := { desc := .func #[3, 29] #[3] false, cks := [.func], nbytes := 8 }
def ty90 : Ty := { desc := .func #[54] #[] false, cks := [.func], nbytes := 8 }
def ty91 : Ty := { desc := .func #[54] #[54] false, cks := [.func], nbytes := 8 }
def ty92 : Ty := { desc := .func #[3, 3] #[29] false, cks := [.func], nbytes := 8 }
def ty93 : Ty := { desc := .func #[9] #[72] false, cks := [.func], nbytes := 8 }
def ty94 : Ty := { desc := .func #[3] #[9] false, cks := [.func], nbytes := 8 }
def ty95 : Ty := { desc := .pointer 5, cks := [.ptr], nbytes := 8 }
def ty96 : Ty := { desc := .func #[9, 9] #[72] false, cks := [.func], nbytes := 8 }
def ty97 : Ty := { desc := .func #[72, 9] #[3] false, cks := [.func], nbytes := 8 }
def ty99 : Ty := { desc := .func #[59, 72] #[72, 4] false, cks := [.func], nbytes := 8 }
def ty100 : Ty := { desc := .struct #[⟨ "n", 3, 0, false, "", "smartcard/code", 0⟩, ⟨ "form", 4, 1, false, "", "smartcard/code", 8⟩, ⟨ "fits", 4, 2, false, "", "smartcard/code", 9⟩], cks := [(.int .i64), .bool, .bool], nbytes := 16, eqb := true }
def ty101 : Ty := { desc := .struct #[⟨ "n", 3, 0, false, "", "smartcard/code", 0⟩, ⟨ "form", 4, 1, false, "", "smartcard/code", 8⟩, ⟨ "fits", 4, 2, false, "", "smartcard/code", 9⟩], cks := [(.int .i64), .bool, .bool], nbytes := 16, eqb := true }
def ty102 : Ty := { desc := .func #[3, 9] #[101] false, cks := [.func], nbytes := 8 }
def ty103 : Ty := { desc := .func #[9, 5] #[72] false, cks := [.func], nbytes := 8 }
def ty104 : Ty := { desc := .func #[9] #[3] false, cks := [.func], nbytes := 8 }
def ty105 : Ty := { desc := .func #[3, 9] #[72, 4] false, cks := [.func], nbytes := 8 }
def ty107 : Ty := { desc := .func #[3, 9] #[3, 4] false, cks := [.func], nbytes := 8 }
def ty108 : Ty := { desc := .func #[3, 29] #[3, 3] false, cks := [.func], nbytes := 8 }
def ty109 : Ty := { desc := .int .u32, cks := [(.int .u32)], nbytes := 4 }
def ty110 : Ty := { desc := .int .i8, cks := [(.int .i8)], nbytes := 1 }
def ty111 : Ty := { desc := .func #[54, 3, 3, 3] #[] false, cks := [.func], nbytes := 8 }
def ty112 : Ty := { desc := .func #[66] #[3] false, cks := [.func], nbytes := 8 }
def ty114 : Ty := { desc := .func #[9, 115] #[72] false, cks := [.func], nbytes := 8 }
def ty115 : Ty := { desc := .func #[21] #[4] false, cks := [.func], nbytes := 8 }
def ty117 : Ty := { desc := .func #[116] #[116] false, cks := [.func], nbytes := 8 }
def ty118 : Ty := { desc := .func #[9, 9] #[3] false, cks := [.func], nbytes := 8 }
def ty119 : Ty := { desc := .func #[9, 9, 3, 3] #[72] false, cks := [.func], nbytes := 8 }
def ty120 : Ty := { desc := .func #[9] #[101] false, cks := [.func], nbytes := 8 }
def ty121 : Ty := { desc := .func #[9] #[3, 4] false, cks := [.func], nbytes := 8 }
def ty122 : Ty := { desc := .func #[54, 3, 3] #[] false, cks := [.func], nbytes := 8 }
def ty123 : Ty := { desc := .int .i64, cks := [(.int .i64)], nbytes := 8 }
def ty125 : Ty := { desc := .func #[54, 3, 3] #[3, 123] false, cks := [.func], nbytes := 8 }
def ty126 : Ty := { desc := .func #[54, 3, 3] #[4] false, cks := [.func], nbytes := 8 }
def ty127 : Ty := { desc := .func #[3, 3] #[4] false, cks := [.func], nbytes := 8 }
def ty128 : Ty := { desc := .func #[54, 3, 3, 3] #[3] false, cks := [.func], nbytes := 8 }
def ty129 : Ty := { desc := .func #[54, 3, 3, 3] #[3, 4] false, cks := [.func], nbytes := 8 }
def ty130 : Ty := { desc := .func #[109] #[3] false, cks := [.func], nbytes := 8 }
def ty131 : Ty := { desc := .func #[132] #[3] false, cks := [.func], nbytes := 8 }
def ty132 : Ty := { desc := .int .u64, cks := [(.int .u64)], nbytes := 8 }
def ty133 : Ty := { desc := .slice 135, cks := [(.slc 135)], nbytes := 24 }
def ty134 : Ty := { desc := .struct #[⟨ "start", 3, 0, false, "", "strings", 0⟩, ⟨ "end", 3, 1, false, "", "strings", 8⟩], cks := [(.int .i64), (.int .i64)], nbytes := 16, eqb := true }
def ty135 : Ty := { desc := .struct #[⟨ "start", 3, 0, false, "", "strings", 0⟩, ⟨ "end", 3, 1, false, "", "strings", 8⟩], cks := [(.int .i64), (.int .i64)], nbytes := 16, eqb := true }
def ty136 : Ty := { desc := .func #[137, 21] #[4] false, cks := [.func], nbytes := 8 }
def ty137 : Ty := { desc := .pointer 150, cks := [.ptr], nbytes := 8 }
def ty138 : Ty := { desc := .func #[2, 3] #[9] false, cks := [.func], nbytes := 8 }
def ty139 : Ty := { desc := .func #[9, 5] #[3] false, cks := [.func], nbytes := 8 }
def ty140 : Ty := { desc := .func #[9, 3] #[72] false, cks := [.func], nbytes := 8 }
def ty141 : Ty := { desc := .int .u64, cks := [(.int .u64)], nbytes := 8 }
def ty142 : Ty := { desc := .func #[3] #[66] false, cks := [.func], nbytes := 8 }
def ty143 : Ty := { desc := .func #[] #[132] false, cks := [.func], nbytes := 8 }
def ty144 : Ty := { desc := .func #[54, 3, 145] #[3] false, cks := [.func], nbytes := 8 }
def ty145 : Ty := { desc := .pointer 3, cks := [.ptr], nbytes := 8 }
def ty146 : Ty := { desc := .func #[54, 3, 3, 3, 145] #[3] false, cks := [.func], nbytes := 8 }
def ty147 : Ty := { desc := .slice 153, cks := [(.slc 153)], nbytes := 24 }
def ty148 : Ty := { desc := .slice 156, cks := [(.slc 156)], nbytes := 24 }
def ty149 : Ty := { desc := .struct #[⟨ "R16", 147, 0, false, "", "", 0⟩, ⟨ "R32", 148, 1, false, "", "", 24⟩, ⟨ "LatinOffset", 3, 2, false, "", "", 48⟩], cks := [(.slc 153), (.slc 156), (.int .i64)], nbytes := 56 }
def ty150 : Ty := { desc := .struct #[⟨ "R16", 147, 0, false, "", "", 0⟩, ⟨ "R32", 148, 1, false, "", "", 24⟩, ⟨ "LatinOffset", 3, 2, false, "", "", 48⟩], cks := [(.slc 153), (.slc 156), (.int .i64)], nbytes := 56 }
def ty151 : Ty := { desc := .int .u16, cks := [(.int .u16)], nbytes := 2 }
def ty152 : Ty := { desc := .struct #[⟨ "Lo", 151, 0, false, "", "", 0⟩, ⟨ "Hi", 151, 1, false, "", "", 2⟩, ⟨ "Stride", 151, 2, false, "", "", 4⟩], cks := [(.int .u16), (.int .u16), (.int .u16)], nbytes := 6, eqb := true }
def ty153 : Ty := { desc := .struct #[⟨ "Lo", 151, 0, false, "", "", 0⟩, ⟨ "Hi", 151, 1, false, "", "", 2⟩, ⟨ "Stride", 151, 2, false, "", "", 4⟩], cks := [(.int .u16), (.int .u16), (.int .u16)], nbytes := 6, eqb := true }
def ty154 : Ty := { desc := .func #[147, 151] #[4] false, cks := [.func], nbytes := 8 }
def ty155 : Ty := { desc := .struct #[⟨ "Lo", 109, 0, false, "", "", 0⟩, ⟨ "Hi", 109, 1, false, "", "", 4⟩, ⟨ "Stride", 109, 2, false, "", "", 8⟩], cks := [(.int .u32), (.int .u32), (.int .u32)], nbytes := 12, eqb := true }
def ty156 : Ty := { desc := .struct #[⟨ "Lo", 109, 0, false, "", "", 0⟩, ⟨ "Hi", 109, 1, false, "", "", 4⟩, ⟨ "Stride", 109, 2, false, "", "", 8⟩], cks := [(.int .u32), (.int .u32), (.int .u32)], nbytes := 12, eqb := true }
def ty157 : Ty := { desc := .func #[148, 109] #[4] false, cks := [.func], nbytes := 8 }
def ty158 : Ty := { desc := .array 24 5, cks := [(.int .u8), (.int .u8), (.int .u8), (.int .u8), (.int .u8), (.int .u8), (.int .u8), (.int .u8), (.int .u8), (.int .u8), (.int .u8), (.int .u8), (.int .u8), (.int .u8), (.int .u8), (.int .u8), (.int .u8), (.int .u8), (.int .u8), (.int .u8), (.int .u8), (.int .u8), (.int .u8), (.int .u8)], nbytes := 24 }
def ty159 : Ty := { desc := .func #[29, 132] #[] false, cks := [.func], nbytes := 8 }
def ty161 : Ty := { desc := .func #[29, 132, 3, 4, 4] #[29, 9] false, cks := [.func], nbytes := 8 }
def ty163 : Ty := { desc := .func #[9] #[109, 109] false, cks := [.func], nbytes := 8 }
def ty165 : Ty := { desc := .func #[9] #[21, 3] false, cks := [.func], nbytes := 8 }
def ty166 : Ty := { desc := .pointer 141, cks := [.ptr], nbytes := 8 }
def ty167 : Ty := { desc := .func #[54, 3, 3, 145] #[3, 3] false, cks := [.func], nbytes := 8 }
def ty168 : Ty := { desc := .pointer 153, cks := [.ptr], nbytes := 8 }
def ty169 : Ty := { desc := .pointer 156, cks := [.ptr], nbytes := 8 }
def ty170 : Ty := { desc := .func #[4] #[3] false, cks := [.func], nbytes := 8 }
def ty171 : Ty := { desc := .array 20 132, cks := [(.int .u64), (.int .u64), (.int .u64), (.int .u64), (.int .u64), (.int .u64), (.int .u64), (.int .u64), (.int .u64), (.int .u64), (.int .u64), (.int .u64), (.int .u64), (.int .u64), (.int .u64), (.int .u64), (.int .u64), (.int .u64), (.int .u64), (.int .u64)], nbytes := 160 }
def ty173 : Ty := { desc := .struct #[⟨ "lo", 5, 0, false, "", "unicode/utf8", 0⟩, ⟨ "hi", 5, 1, false, "", "unicode/utf8", 1⟩], cks := [(.int .u8), (.int .u8)], nbytes := 2, eqb := true }
def ty174 : Ty := { desc := .struct #[⟨ "lo", 5, 0, false, "", "unicode/utf8", 0⟩, ⟨ "hi", 5, 1, false, "", "unicode/utf8", 1⟩], cks := [(.int .u8), (.int .u8)], nbytes := 2, eqb := true }
def ty175 : Ty := { desc := .array 16 174, cks := [(.int .u8), (.int .u8), (.int .u8), (.int .u8), (.int .u8), (.int .u8), (.int .u8), (.int .u8), (.int .u8), (.int .u8), (.int .u8), (.int .u8), (.int .u8), (.int .u8), (.int .u8), (.int .u8), (.int .u8), (.int .u8), (.int .u8), (.int .u8), (.int .u8), (.int .u8), (.int .u8), (.int .u8), (.int .u8), (.int .u8), (.int .u8), (.int .u8), (.int .u8), (.int .u8), (.int .u8), (.int .u8)], nbytes := 32 }
def ty176 : Ty := { desc := .array 32 5, cks := [(.int .u8), (.int .u8), (.int .u8), (.int .u8), (.int .u8), (.int .u8), (.int .u8), (.int .u8), (.int .u8), (.int .u8), (.int .u8), (.int .u8), (.int .u8), (.int .u8), (.int .u8), (.int .u8), (.int .u8), (.int .u8), (.int .u8), (.int .u8), (.int .u8), (.int .u8), (.int .u8), (.int .u8), (.int .u8), (.int .u8), (.int .u8), (.int .u8), (.int .u8), (.int .u8), (.int .u8), (.int .u8)], nbytes := 32 }
def ty177 : Ty := { desc := .array 64 5, cks := [(.int .u8), (.int .u8), (.int .u8), (.int .u8), (.int .u8), (.int .u8), (.int .u8), (.int .u8), (.int .u8), (.int .u8), (.int .u8), (.int .u8), (.int .u8), (.int .u8), (.int .u8), (.int .u8), (.int .u8), (.int .u8), (.int .u8), (.int .u8), (.int .u8), (.int .u8), (.int .u8), (.int .u8), (.int .u8), (.int .u8), (.int .u8), (.int .u8), (.int .u8), (.int .u8), (.int .u8), (.int .u8), (.int .u8), (.int .u8), (.int .u8), (.int .u8), (.int .u8), (.int .u8), (.int .u8), (.int .u8), (.int .u8), (.int .u8), (.int .u8), (.int .u8), (.int .u8), (.int .u8), (.int .u8), (.int .u8), (.int .u8), (.int .u8), (.int .u8), (.int .u8), (.int .u8), (.int .u8), (.int .u8), (.int .u8), (.int .u8), (.int .u8), (.int .u8), (.int .u8), (.int .u8), (.int .u8), (.int .u8), (.int .u8)], nbytes := 64 }
def ty178 : Ty := { desc := .struct #[⟨ "_interface", 17, 0, false, "", "runtime", 0⟩, ⟨ "concrete", 17, 1, false, "", "runtime", 8⟩, ⟨ "asserted", 17, 2, false, "", "runtime", 16⟩, ⟨ "missingMethod", 9, 3, false, "", "runtime", 24⟩], cks := [.ptr, .ptr, .ptr, .str], nbytes := 40 }
def ty179 : Ty := { desc := .struct #[⟨ "_interface", 17, 0, false, "", "runtime", 0⟩, ⟨ "concrete", 17, 1, false, "", "runtime", 8⟩, ⟨ "asserted", 17, 2, false, "", "runtime", 16⟩, ⟨ "missingMethod", 9, 3, false, "", "runtime", 24⟩], cks := [.ptr, .ptr, .ptr, .str], nbytes := 40 }
def ty180 : Ty := { desc := .array 0 16, cks := [], nbytes := 0 }
def ty181 : Ty := { desc := .struct #[⟨ "_", 180, 0, false, "", "runtime", 0⟩], cks := [], nbytes := 0 }
def ty182 : Ty := { desc := .struct #[⟨ "_", 180, 0, false, "", "runtime", 0⟩], cks := [], nbytes := 0 }
def ty183 : Ty := { desc := .func #[] #[3] false, cks := [.func], nbytes := 8 }
def ty184 : Ty := { desc := .int .u8, cks := [(.int .u8)], nbytes := 1 }
def ty185 : Ty := { desc := .int .u8, cks := [(.int .u8)], nbytes := 1 }
def ty186 : Ty := { desc := .func #[116, 116] #[4] false, cks := [.func], nbytes := 8 }
def ty187 : Ty := { desc := .int .i32, cks := [(.int .i32)], nbytes := 4 }
def ty188 : Ty := { desc := .int .i32, cks := [(.int .i32)], nbytes := 4 }
def ty189 : Ty := { desc := .struct #[⟨ "Size_", 12, 0, false, "", "", 0⟩, ⟨ "PtrBytes", 12, 1, false, "", "", 8⟩, ⟨ "Hash", 109, 2, false, "", "", 16⟩, ⟨ "TFlag", 184, 3, false, "", "", 20⟩, ⟨ "Align_", 5, 4, false, "", "", 21⟩, ⟨ "FieldAlign_", 5, 5, false, "", "", 22⟩, ⟨ "Kind_", 185, 6, false, "", "", 23⟩, ⟨ "Equal", 186, 7, false, "", "", 24⟩, ⟨ "GCData", 95, 8, false, "", "", 32⟩, ⟨ "Str", 187, 9, false, "", "", 40⟩, ⟨ "PtrToThis", 188, 10, false, "", "", 44⟩], cks := [(.int .u64), (.int .u64), (.int .u32), (.int .u8), (.int .u8), (.int .u8), (.int .u8), .func, .ptr, (.int .i32), (.int .i32)], nbytes := 48 }
def ty190 : Ty := { desc := .struct #[⟨ "Size_", 12, 0, false, "", "", 0⟩, ⟨ "PtrBytes", 12, 1, false, "", "", 8⟩, ⟨ "Hash", 109, 2, false, "", "", 16⟩, ⟨ "TFlag", 184, 3, false, "", "", 20⟩, ⟨ "Align_", 5, 4, false, "", "", 21⟩, ⟨ "FieldAlign_", 5, 5, false, "", "", 22⟩, ⟨ "Kind_", 185, 6, false, "", "", 23⟩, ⟨ "Equal", 186, 7, false, "", "", 24⟩, ⟨ "GCData", 95, 8, false, "", "", 32⟩, ⟨ "Str", 187, 9, false, "", "", 40⟩, ⟨ "PtrToThis", 188, 10, false, "", "", 44⟩], cks := [(.int .u64), (.int .u64), (.int .u32), (.int .u8), (.int .u8), (.int .u8), (.int .u8), .func, .ptr, (.int .i32), (.int .i32)], nbytes := 48 }
def T0 (t : TypeId) : Option Ty :=
  (match Nat.blt t 96 with
  | true => (match Nat.blt t 47 with
   | true => (match Nat.blt t 22 with
    | true => (match Nat.blt t 11 with
     | true => (match Nat.blt t 6 with
      | true => (match Nat.blt t 3 with
       | true => (match Nat.blt t 2 with
        | true => (match t == 1 with | true => some ty1 | false => none)
        | false => (match t == 2 with | true => some ty2 | false => none))
       | false => (match Nat.blt t 4 with
        | true => (match t == 3 with | true => some ty3 | false => none)
        | false => (match Nat.blt t 5 with
         | true => (match t == 4 with | true => some ty4 | false => none)
         | false => (match t == 5 with | true => some ty5 | false => none))))
      | false => (match Nat.blt t 8 with
       | true => (match Nat.blt t 7 with
        | true => (match t == 6 with | true => some ty6 | false => none)
        | false => (match t == 7 with | true => some ty7 | false => none))
       | false => (match Nat.blt t 9 with
        | true => (match t == 8 with | true => some ty8 | false => none)
        | false => (match Nat.blt t 10 with
         | true => (match t == 9 with | true => some ty9 | false => none)
         | false => (match t == 10 with | true => some ty10 | false => none)))))
     | false => (match Nat.blt t 16 with
      | true => (match Nat.blt t 13 with
       | true => (match Nat.blt t 12 with
        | true => (match t == 11 with | true => some ty11 | false => none)
        | false => (match t == 12 with | true => some ty12 | false => none))
       | false => (match Nat.blt t 14 with
        | true => (match t == 13 with | true => some ty13 | false => none)
        | false => (match Nat.blt t 15 with
         | true => (match t == 14 with | true => some ty14 | false => none)
         | false => (match t == 15 with | true => some ty15 | false => none))))
      | false => (match Nat.blt t 19 with
       | true => (match Nat.blt t 17 with
        | true => (match t == 16 with | true => some ty16 | false => none)
        | false => (match Nat.blt t 18 with
         | true => (match t == 17 with | true => some ty17 | false => none)
         | false => (match t == 18 with | true => some ty18 | false => none)))
       | false => (match Nat.blt t 20 with
        | true => (match t == 19 with | true => some ty19 | false => none)
        | false => (match Nat.blt t 21 with
         | true => (match t == 20 with | true => some ty20 | false => none)
         | false => (match t == 21 with | true => some ty21 | false => none))))))
    | false => (match Nat.blt t 34 with
     | true => (match Nat.blt t 27 with
      | true => (match Nat.blt t 24 with
       | true => (match Nat.blt t 23 with
        | true => (match t == 22 with | true => some ty22 | false => none)
        | false => (match t == 23 with | true => some ty23 | false => none))
       | false => (match Nat.blt t 25 with
        | true => (match t == 24 with | true => some ty24 | false => none)
        | false => (match Nat.blt t 26 with
         | true => (match t == 25 with | true => some ty25 | false => none)
         | false => (match t == 26 with | true => some ty26 | false => none))))
      | false => (match Nat.blt t 31 with
       | true => (match Nat.blt t 28 with
        | true => (match t == 27 with | true => some ty27 | false => none)
        | false => (match Nat.blt t 29 with
         | true => (match t == 28 with | true => some ty28 | false => none)
         | false => (match t == 29 with | true => some ty29 | false => none)))
       | false => (match Nat.blt t 32 with
        | true => (match t == 31 with | true => some ty31 | false => none)
        | false => (match Nat.blt t 33 with
         | true => (match t == 32 with | true => some ty32 | false => none)
         | false => (match t == 33 with | true => some ty33 | false => none)))))
     | false => (match Nat.blt t 40 with
      | true => (match Nat.blt t 37 with
       | true => (match Nat.blt t 36 with
        | true => (match t == 34 with | true => some ty34 | false => none)
        | false => (match t == 36 with | true => some ty36 | false => none))
       | false => (match Nat.blt t 38 with
        | true => (match t == 37 with | true => some ty37 | false => none)
        | false => (match Nat.blt t 39 with
         | true => (match t == 38 with | true => some ty38 | false => none)
         | false => (match t == 39 with | true => some ty39 | false => none))))
      | false => (match Nat.blt t 43 with
       | true => (match Nat.blt t 41 with
        | true => (match t == 40 with | true => some ty40 | false => none)
        | false => (match Nat.blt t 42 with
         | true => (match t == 41 with | true => some ty41 | false => none)
         | false => (match t == 42 with | true => some ty42 | false => none)))
       | false => (match Nat.blt t 44 with
        | true => (match t == 43 with | true => some ty43 | false => none)
        | false => (match Nat.blt t 45 with
         | true => (match t == 44 with | true => some ty44 | false => none)
         | false => (match t == 45 with | true => some ty45 | false => none)))))))
   | false => (match Nat.blt t 70 with
    | true => (match Nat.blt t 57 with
     | true => (match Nat.blt t 52 with
      | true => (match Nat.blt t 49 with
       | true => (match Nat.blt t 48 with
        | true => (match t == 47 with | true => some ty47 | false => none)
        | false => (match t == 48 with | true => some ty48 | false => none))
       | false => (match Nat.blt t 50 with
        | true => (match t == 49 with | true => some ty49 | false => none)
        | false => (match Nat.blt t 51 with
         | true => (match t == 50 with | true => some ty50 | false => none)
         | false => (match t == 51 with | true => some ty51 | false => none))))
      | false => (match Nat.blt t 54 with
       | true => (match Nat.blt t 53 with
        | true => (match t == 52 with | true => some ty52 | false => none)
        | false => (match t == 53 with | true => some ty53 | false => none))
       | false => (match Nat.blt t 55 with
        | true => (match t == 54 with | true => some ty54 | false => none)
        | false => (match Nat.blt t 56 with
         | true => (match t == 55 with | true => some ty55 | false => none)
         | false => (match t == 56 with | true => some ty56 | false => none)))))
     | false => (match Nat.blt t 64 with
      | true => (match Nat.blt t 59 with
       | true => (match Nat.blt t 58 with
        | true => (match t == 57 with | true => some ty57 | false => none)
        | false => (match t == 58 with | true => some ty58 | false => none))
       | false => (match Nat.blt t 60 with
        | true => (match t == 59 with | true => some ty59 | false => none)
        | false => (match Nat.blt t 62 with
         | true => (match t == 60 with | true => some ty60 | false => none)
         | false => (match t == 62 with | true => some ty62 | false => none))))
      | false => (match Nat.blt t 67 with
       | true => (match Nat.blt t 65 with
        | true => (match t == 64 with | true => some ty64 | false => none)
        | false => (match Nat.blt t 66 with
         | true => (match t == 65 with | true => some ty65 | false => none)
         | false => (match t == 66 with | true => some ty66 | false => none)))
       | false => (match Nat.blt t 68 with
        | true => (match t == 67 with | true => some ty67 | false => none)
        | false => (match Nat.blt t 69 with
         | true => (match t == 68 with | true => some ty68 | false => none)
         | false => (match t == 69 with | true => some ty69 | false => none))))))
    | false => (match Nat.blt t 84 with
     | true => (match Nat.blt t 75 with
      | true => (match Nat.blt t 72 with
       | true => (match Nat.blt t 71 with
        | true => (match t == 70 with | true => some ty70 | false => none)
        | false => (match t == 71 with | true => some ty71 | false => none))
       | false => (match Nat.blt t 73 with
        | true => (match t == 72 with | true => some ty72 | false => none)
        | false => (match Nat.blt t 74 with
         | true => (match t == 73 with | true => some ty73 | false => none)
         | false => (match t == 74 with | true => some ty74 | false => none))))
      | false => (match Nat.blt t 79 with
       | true => (match Nat.blt t 77 with
        | true => (match t == 75 with | true => some ty75 | false => none)
        | false => (match Nat.blt t 78 with
         | true => (match t == 77 with | true => some ty77 | false => none)
         | false => (match t == 78 with | true => some ty78 | false => none)))
       | false => (match Nat.blt t 80 with
        | true => (match t == 79 with | true => some ty79 | false => none)
        | false => (match Nat.blt t 82 with
         | true => (match t == 80 with | true => some ty80 | false => none)
         | false => (match t == 82 with | true => some ty82 | false => none)))))
     | false => (match Nat.blt t 90 with
      | true => (match Nat.blt t 87 with
       | true => (match Nat.blt t 85 with
        | true => (match t == 84 with | true => some ty84 | false => none)
        | false => (match t == 85 with | true => some ty85 | false => none))
       | false => (match Nat.blt t 88 with
        | true => (match t == 87 with | true => some ty87 | false => none)
        | false => (match Nat.blt t 89 with
         | true => (match t == 88 with | true => some ty88 | false => none)
         | false => (match t == 89 with | true => some ty89 | false => none))))
      | false => (match Nat.blt t 93 with
       | true => (match Nat.blt t 91 with
        | true => (match t == 90 with | true => some ty90 | false => none)
        | false => (match Nat.blt t 92 with
         | true => (match t == 91 with | true => some ty91 | false => none)
         | false => (match t == 92 with | true => some ty92 | false => none)))
       | false => (match Nat.blt t 94 with
        | true => (match t == 93 with | true => some ty93 | false => none)
        | false => (match Nat.blt t 95 with
         | true => (match t == 94 with | true => some ty94 | false => none)
         | false => (match t == 95 with | true => some ty95 | false => none))))))))
  | false => (match Nat.blt t 144 with
   | true => (match Nat.blt t 121 with
    | true => (match Nat.blt t 108 with
     | true => (match Nat.blt t 102 with
      | true => (match Nat.blt t 99 with
       | true => (match Nat.blt t 97 with
        | true => (match t == 96 with | true => some ty96 | false => none)
        | false => (match t == 97 with | true => some ty97 | false => none))
       | false => (match Nat.blt t 100 with
        | true => (match t == 99 with | true => some ty99 | false => none)
        | false => (match Nat.blt t 101 with
         | true => (match t == 100 with | true => some ty100 | false => none)
         | false => (match t == 101 with | true => some ty101 | false => none))))
      | false => (match Nat.blt t 104 with
       | true => (match Nat.blt t 103 with
        | true => (match t == 102 with | true => some ty102 | false => none)
        | false => (match t == 103 with | true => some ty103 | false => none))
       | false => (match Nat.blt t 105 with
        | true => (match t == 104 with | true => some ty104 | false => none)
        | false => (match Nat.blt t 107 with
         | true => (match t == 105 with | true => some ty105 | false => none)
         | false => (match t == 107 with | true => some ty107 | false => none)))))
     | false => (match Nat.blt t 114 with
      | true => (match Nat.blt t 110 with
       | true => (match Nat.blt t 109 with
        | true => (match t == 108 with | true => some ty108 | false => none)
        | false => (match t == 109 with | true => some ty109 | false => none))
       | false => (match Nat.blt t 111 with
        | true => (match t == 110 with | true => some ty110 | false => none)
        | false => (match Nat.blt t 112 with
         | true => (match t == 111 with | true => some ty111 | false => none)
         | false => (match t == 112 with | true => some ty112 | false => none))))
      | false => (match Nat.blt t 118 with
       | true => (match Nat.blt t 115 with
        | true => (match t == 114 with | true => some ty114 | false => none)
        | false => (match Nat.blt t 117 with
         | true => (match t == 115 with | true => some ty115 | false => none)
         | false => (match t == 117 with | true => some ty117 | false => none)))
       | false => (match Nat.blt t 119 with
        | true => (match t == 118 with | true => some ty118 | false => none)
        | false => (match Nat.blt t 120 with
         | true => (match t == 119 with | true => some ty119 | false => none)
         | false => (match t == 120 with | true => some ty120 | false => none))))))
    | false => (match Nat.blt t 133 with
     | true => (match Nat.blt t 127 with
      | true => (match Nat.blt t 123 with
       | true => (match Nat.blt t 122 with
        | true => (match t == 121 with | true => some ty121 | false => none)
        | false => (match t == 122 with | true => some ty122 | false => none))
       | false => (match Nat.blt t 125 with
        | true => (match t == 123 with | true => some ty123 | false => none)
        | false => (match Nat.blt t 126 with
         | true => (match t == 125 with | true => some ty125 | false => none)
         | false => (match t == 126 with | true => some ty126 | false => none))))
      | false => (match Nat.blt t 130 with
       | true => (match Nat.blt t 128 with
        | true => (match t == 127 with | true => some ty127 | false => none)
        | false => (match Nat.blt t 129 with
         | true => (match t == 128 with | true => some ty128 | false => none)
         | false => (match t == 129 with | true => some ty129 | false => none)))
       | false => (match Nat.blt t 131 with
        | true => (match t == 130 with | true => some ty130 | false => none)
        | false => (match Nat.blt t 132 with
         | true => (match t == 131 with | true => some ty131 | false => none)
         | false => (match t == 132 with | true => some ty132 | false => none)))))
     | false => (match Nat.blt t 138 with
      | true => (match Nat.blt t 135 with
       | true => (match Nat.blt t 134 with
        | true => (match t == 133 with | true => some ty133 | false => none)
        | false => (match t == 134 with | true => some ty134 | false => none))
       | false => (match Nat.blt t 136 with
        | true => (match t == 135 with | true => some ty135 | false => none)
        | false => (match Nat.blt t 137 with
         | true => (match t == 136 with | true => some ty136 | false => none)
         | false => (match t == 137 with | true => some ty137 | false => none))))
      | false => (match Nat.blt t 141 with
       | true => (match Nat.blt t 139 with
        | true => (match t == 138 with | true => some ty138 | false => none)
        | false => (match Nat.blt t 140 with
         | true => (match t == 139 with | true => some ty139 | false => none)
         | false => (match t == 140 with | true => some ty140 | false => none)))
       | false => (match Nat.blt t 142 with
        | true => (match t == 141 with | true => some ty141 | false => none)
        | false => (match Nat.blt t 143 with
         | true => (match t == 142 with | true => some ty142 | false => none)
         | false => (match t == 143 with | true => some ty143 | false => none)))))))
   | false => (match Nat.blt t 168 with
    | true => (match Nat.blt t 154 with
     | true => (match Nat.blt t 149 with
      | true => (match Nat.blt t 146 with
       | true => (match Nat.blt t 145 with
        | true => (match t == 144 with | true => some ty144 | false => none)
        | false => (match t == 145 with | true => some ty145 | false => none))
       | false => (match Nat.blt t 147 with
        | true => (match t == 146 with | true => some ty146 | false => none)
        | false => (match Nat.blt t 148 with
         | true => (match t == 147 with | true => some ty147 | false => none)
         | false => (match t == 148 with | true => some ty148 | false => none))))
      | false => (match Nat.blt t 151 with
       | true => (match Nat.blt t 150 with
        | true => (match t == 149 with | true => some ty149 | false => none)
        | false => (match t == 150 with | true => some ty150 | false => none))
       | false => (match Nat.blt t 152 with
        | true => (match t == 151 with | true => some ty151 | false => none)
        | false => (match Nat.blt t 153 with
         | true => (match t == 152 with | true => some ty152 | false => none)
         | false => (match t == 153 with | true => some ty153 | false => none)))))
     | false => (match Nat.blt t 159 with
      | true => (match Nat.blt t 156 with
       | true => (match Nat.blt t 155 with
        | true => (match t == 154 with | true => some ty154 | false => none)
        | false => (match t == 155 with | true => some ty155 | false => none))
       | false => (match Nat.blt t 157 with
        | true => (match t == 156 with | true => some ty156 | false => none)
        | false => (match Nat.blt t 158 with
         | true => (match t == 157 with | true => some ty157 | false => none)
         | false => (match t == 158 with | true => some ty158 | false => none))))
      | false => (match Nat.blt t 165 with
       | true => (match Nat.blt t 161 with
        | true => (match t == 159 with | true => some ty159 | false => none)
        | false => (match Nat.blt t 163 with
         | true => (match t == 161 with | true => some ty161 | false => none)
         | false => (match t == 163 with | true => some ty163 | false => none)))
       | false => (match Nat.blt t 166 with
        | true => (match t == 165 with | true => some ty165 | false => none)
        | false => (match Nat.blt t 167 with
         | true => (match t == 166 with | true => some ty166 | false => none)
         | false => (match t == 167 with | true => some ty167 | false => none))))))
    | false => (match Nat.blt t 180 with
     | true => (match Nat.blt t 174 with
      | true => (match Nat.blt t 170 with
       | true => (match Nat.blt t 169 with
        | true => (match t == 168 with | true => some ty168 | false => none)
        | false => (match t == 169 with | true => some ty169 | false => none))
       | false => (match Nat.blt t 171 with
        | true => (match t == 170 with | true => some ty170 | false => none)
        | false => (match Nat.blt t 173 with
         | true => (match t == 171 with | true => some ty171 | false => none)
         | false => (match t == 173 with | true => some ty173 | false => none))))
      | false => (match Nat.blt t 177 with
       | true => (match Nat.blt t 175 with
        | true => (match t == 174 with | true => some ty174 | false => none)
        | false => (match Nat.blt t 176 with
         | true => (match t == 175 with | true => some ty175 | false => none)
         | false => (match t == 176 with | true => some ty176 | false => none)))
       | false => (match Nat.blt t 178 with
        | true => (match t == 177 with | true => some ty177 | false => none)
        | false => (match Nat.blt t 179 with
         | true => (match t == 178 with | true => some ty178 | false => none)
         | false => (match t == 179 with | true => some ty179 | false => none)))))
     | false => (match Nat.blt t 185 with
      | true => (match Nat.blt t 182 with
       | true => (match Nat.blt t 181 with
        | true => (match t == 180 with | true => some ty180 | false => none)
        | false => (match t == 181 with | true => some ty181 | false => none))
       | false => (match Nat.blt t 183 with
        | true => (match t == 182 with | true => some ty182 | false => none)
        | false => (match Nat.blt t 184 with
         | true => (match t == 183 with | true => some ty183 | false => none)
         | false => (match t == 184 with | true => some ty184 | false => none))))
      | false => (match Nat.blt t 188 with
       | true => (match Nat.blt t 186 with
        | true => (match t == 185 with | true => some ty185 | false => none)
        | false => (match Nat.blt t 187 with
         | true => (match t == 186 with | true => some ty186 | false => none)
         | false => (match t == 187 with | true => some ty187 | false => none)))
       | false => (match Nat.blt t 189 with
        | true => (match t == 188 with | true => some ty188 | false => none)
        | false => (match Nat.blt t 190 with
         | true => (match t == 189 with | true => some ty189 | false => none)
         | false => (match t == 190 with | true => some ty190 | false => none)))))))))
def T (t : TypeId) : Option Ty := upTo 191 T0 t
theorem tok1 : TyOK Tryd.prog 1 ty1 := tyOK_of (by kernel_rfl) (by kernel_rfl) (by kernel_rfl) (by kernel_rfl)
theorem tok2 : TyOK Tryd.prog 2 ty2 := tyOK_of (by kernel_rfl) (by kernel_rfl) (by kernel_rfl) (by kernel_rfl)
theorem tok3 : TyOK Tryd.prog 3 ty3 := tyOK_of (by kernel_rfl) (by kernel_rfl) (by kernel_rfl) (by kernel_rfl)
theorem tok4 : TyOK Tryd.prog 4 ty4 := tyOK_of (by kernel_rfl) (by kernel_rfl) (by kernel_rfl) (by kernel_rfl)
theorem tok5 : TyOK Tryd.prog 5 ty5 := tyOK_of (by kernel_rfl) (by kernel_rfl) (by kernel_rfl) (by kernel_rfl)
theorem tok6 : TyOK Tryd.prog 6 ty6 := tyOK_of (by kernel_rfl) (by kernel_rfl) (by kernel_rfl) (by kernel_rfl)
theorem tok7 : TyOK Tryd.prog 7 ty7 := tyOK_of (by kernel_rfl) (by kernel_rfl) (by kernel_rfl) (by kernel_rfl)
theorem tok8 : TyOK Tryd.prog 8 ty8 := tyOK_of (by kernel_rfl) (by kernel_rfl) (by kernel_rfl) (by kernel_rfl)
theorem tok9 : TyOK Tryd.prog 9 ty9 := tyOK_of (by kernel_rfl) (by kernel_rfl) (by kernel_rfl) (by kernel_rfl)
theorem tok10 : TyOK Tryd.prog 10 ty10 := tyOK_of (by kernel_rfl) (by kernel_rfl) (by kernel_rfl) (by kernel_rfl)
theorem tok11 : TyOK Tryd.prog 11 ty11 := tyOK_of (by kernel_rfl) (by kernel_rfl) (by kernel_rfl) (by kernel_rfl)
theorem tok12 : TyOK Tryd.prog 12 ty12 := tyOK_of (by kernel_rfl) (by kernel_rfl) (by kernel_rfl) (by kernel_rfl)
theorem tok13 : TyOK Tryd.prog 13 ty13 := tyOK_of (by kernel_rfl) (by kernel_rfl) (by kernel_rfl) (by kernel_rfl)
theorem tok14 : TyOK Tryd.prog 14 ty14 := tyOK_of (by kernel_rfl) (by kernel_rfl) (by kernel_rfl) (by kernel_rfl)
theorem tok15 : TyOK Tryd.prog 15 ty15 := tyOK_of (by kernel_rfl) (by kernel_rfl) (by kernel_rfl) (by kernel_rfl)
theorem tok16 : TyOK Tryd.prog 16 ty16 := tyOK_of (by kernel_rfl) (by kernel_rfl) (by kernel_rfl) (by kernel_rfl)
theorem tok17 : TyOK Tryd.prog 17 ty17 := tyOK_of (by kernel_rfl) (by kernel_rfl) (by kernel_rfl) (by kernel_rfl)
theorem tok18 : TyOK Tryd.prog 18 ty18 := tyOK_of (by kernel_rfl) (by kernel_rfl) (by kernel_rfl) (by kernel_rfl)
theorem tok19 : TyOK Tryd.prog 19 ty19 := tyOK_of (by kernel_rfl) (by kernel_rfl) (by kernel_rfl) (by kernel_rfl)
theorem tok20 : TyOK Tryd.prog 20 ty20 := tyOK_of (by kernel_rfl) (by kernel_rfl) (by kernel_rfl) (by kernel_rfl)
theorem tok21 : TyOK Tryd.prog 21 ty21 := tyOK_of (by kernel_rfl) (by kernel_rfl) (by kernel_rfl) (by kernel_rfl)
theorem tok22 : TyOK Tryd.prog 22 ty22 := tyOK_of (by kernel_rfl) (by kernel_rfl) (by kernel_rfl) (by kernel_rfl)
theorem tok23 : TyOK Tryd.prog 23 ty23 := tyOK_of (by kernel_rfl) (by kernel_rfl) (by kernel_rfl) (by kernel_rfl)
theorem tok24 : TyOK Tryd.prog 24 ty24 := tyOK_of (by kernel_rfl) (by kernel_rfl) (by kernel_rfl) (by kernel_rfl)
theorem tok25 : TyOK Tryd.prog 25 ty25 := tyOK_of (by kernel_rfl) (by kernel_rfl) (by kernel_rfl) (by kernel_rfl)
theorem tok26 : TyOK Tryd.prog 26 ty26 := tyOK_of (by kernel_rfl) (by kernel_rfl) (by kernel_rfl) (by kernel_rfl)
theorem tok27 : TyOK Tryd.prog 27 ty27 := tyOK_of (by kernel_rfl) (by kernel_rfl) (by kernel_rfl) (by kernel_rfl)
theorem tok28 : TyOK Tryd.prog 28 ty28 := tyOK_of (by kernel_rfl) (by kernel_rfl) (by kernel_rfl) (by kernel_rfl)
theorem tok29 : TyOK Tryd.prog 29 ty29 := tyOK_of (by kernel_rfl) (by kernel_rfl) (by kernel_rfl) (by kernel_rfl)
theorem tok31 : TyOK Tryd.prog 31 ty31 := tyOK_of (by kernel_rfl) (by kernel_rfl) (by kernel_rfl) (by kernel_rfl)
theorem tok32 : TyOK Tryd.prog 32 ty32 := tyOK_of (by kernel_rfl) (by kernel_rfl) (by kernel_rfl) (by kernel_rfl)
theorem tok33 : TyOK Tryd.prog 33 ty33 := tyOK_of (by kernel_rfl) (by kernel_rfl) (by kernel_rfl) (by kernel_rfl)
theorem tok34 : TyOK Tryd.prog 34 ty34 := tyOK_of (by kernel_rfl) (by kernel_rfl) (by kernel_rfl) (by kernel_rfl)
theorem tok36 : TyOK Tryd.prog 36 ty36 := tyOK_of (by kernel_rfl) (by kernel_rfl) (by kernel_rfl) (by kernel_rfl)
theorem tok37 : TyOK Tryd.prog 37 ty37 := tyOK_of (by kernel_rfl) (by kernel_rfl) (by kernel_rfl) (by kernel_rfl)
theorem tok38 : TyOK Tryd.prog 38 ty38 := tyOK_of (by kernel_rfl) (by kernel_rfl) (by kernel_rfl) (by kernel_rfl)
theorem tok39 : TyOK Tryd.prog 39 ty39 := tyOK_of (by kernel_rfl) (by kernel_rfl) (by kernel_rfl) (by kernel_rfl)
theorem tok40 : TyOK Tryd.prog 40 ty40 := tyOK_of (by kernel_rfl) (by kernel_rfl) (by kernel_rfl) (by kernel_rfl)
theorem tok41 : TyOK Tryd.prog 41 ty41 := tyOK_of (by kernel_rfl) (by kernel_rfl) (by kernel_rfl) (by kernel_rfl)
theorem tok42 : TyOK Tryd.prog 42 ty42 := tyOK_of (by kernel_rfl) (by kernel_rfl) (by kernel_rfl) (by kernel_rfl)
theorem tok43 : TyOK Tryd.prog 43 ty43 := tyOK_of (by kernel_rfl) (by kernel_rfl) (by kernel_rfl) (by kernel_rfl)
theorem tok44 : TyOK Tryd.prog 44 ty44 := tyOK_of (by kernel_rfl) (by kernel_rfl) (by kernel_rfl) (by kernel_rfl)
theorem tok45 : TyOK Tryd.prog 45 ty45 := tyOK_of (by kernel_rfl) (by kernel_rfl) (by kernel_rfl) (by kernel_rfl)
theorem tok47 : TyOK Tryd.prog 47 ty47 := tyOK_of (by kernel_rfl) (by kernel_rfl) (by kernel_rfl) (by kernel_rfl)
theorem tok48 : TyOK Tryd.prog 48 ty48 := tyOK_of (by kernel_rfl) (by kernel_rfl) (by kernel_rfl) (by kernel_rfl)
theorem tok49 : TyOK Tryd.prog 49 ty49 := tyOK_of (by kernel_rfl) (by kernel_rfl) (by kernel_rfl) (by kernel_rfl)
theorem tok50 : TyOK Tryd.prog 50 ty50 := tyOK_of (by kernel_rfl) (by kernel_rfl) (by kernel_rfl) (by kernel_rfl)
theorem tok51 : TyOK Tryd.prog 51 ty51 := tyOK_of (by kernel_rfl) (by kernel_rfl) (by kernel_rfl) (by kernel_rfl)
theorem tok52 : TyOK Tryd.prog 52 ty52 := tyOK_of (by kernel_rfl) (by kernel_rfl) (by kernel_rfl) (by kernel_rfl)
theorem tok53 : TyOK Tryd.prog 53 ty53 := tyOK_of (by kernel_rfl) (by kernel_rfl) (by kernel_rfl) (by kernel_rfl)
theorem tok54 : TyOK Tryd.prog 54 ty54 := tyOK_of (by kernel_rfl) (by kernel_rfl) (by kernel_rfl) (by kernel_rfl)
theorem tok55 : TyOK Tryd.prog 55 ty55 := tyOK_of (by kernel_rfl) (by kernel_rfl) (by kernel_rfl) (by kernel_rfl)
theorem tok56 : TyOK Tryd.prog 56 ty56 := tyOK_of (by kernel_rfl) (by kernel_rfl) (by kernel_rfl) (by kernel_rfl)
theorem tok57 : TyOK Tryd.prog 57 ty57 := tyOK_of (by kernel_rfl) (by kernel_rfl) (by kernel_rfl) (by kernel_rfl)
theorem tok58 : TyOK Tryd.prog 58 ty58 := tyOK_of (by kernel_rfl) (by kernel_rfl) (by kernel_rfl) (by kernel_rfl)
theorem tok59 : TyOK Tryd.prog 59 ty59 := tyOK_of (by kernel_rfl) (by kernel_rfl) (by kernel_rfl) (by kernel_rfl)
theorem tok60 : TyOK Tryd.prog 60 ty60 := tyOK_of (by kernel_rfl) (by kernel_rfl) (by kernel_rfl) (by kernel_rfl)
theorem tok62 : TyOK Tryd.prog 62 ty62 := tyOK_of (by kernel_rfl) (by kernel_rfl) (by kernel_rfl) (by kernel_rfl)
theorem tok64 : TyOK Tryd.prog 64 ty64 := tyOK_of (by kernel_rfl) (by kernel_rfl) (by kernel_rfl) (by kernel_rfl)
theorem tok65 : TyOK Tryd.prog 65 ty65 := tyOK_of (by kernel_rfl) (by kernel_rfl) (by kernel_rfl) (by kernel_rfl)
theorem tok66 : TyOK Tryd.prog 66 ty66 := tyOK_of (by kernel_rfl) (by kernel_rfl) (by kernel_rfl) (by kernel_rfl)
theorem tok67 : TyOK Tryd.prog 67 ty67 := tyOK_of (by kernel_rfl) (by kernel_rfl) (by kernel_rfl) (by kernel_rfl)
theorem tok68 : TyOK Tryd.prog 68 ty68 := tyOK_of (by kernel_rfl) (by kernel_rfl) (by kernel_rfl) (by kernel_rfl)
theorem tok69 : TyOK Tryd.prog 69 ty69 := tyOK_of (by kernel_rfl) (by kernel_rfl) (by kernel_rfl) (by kernel_rfl)
theorem tok70 : TyOK Tryd.prog 70 ty70 := tyOK_of (by kernel_rfl) (by kernel_rfl) (by kernel_rfl) (by kernel_rfl)
theorem tok71 : TyOK Tryd.prog 71 ty71 := tyOK_of (by kernel_rfl) (by kernel_rfl) (by kernel_rfl) (by kernel_rfl)
theorem tok72 : TyOK Tryd.prog 72 ty72 := tyOK_of (by kernel_rfl) (by kernel_rfl) (by kernel_rfl) (by kernel_rfl)
theorem tok73 : TyOK Tryd.prog 73 ty73 := tyOK_of (by kernel_rfl) (by kernel_rfl) (by kernel_rfl) (by kernel_rfl)
theorem tok74 : TyOK Tryd.prog 74 ty74 := tyOK_of (by kernel_rfl) (by kernel_rfl) (by kernel_rfl) (by kernel_rfl)
theorem tok75 : TyOK Tryd.prog 75 ty75 := tyOK_of (by kernel_rfl) (by kernel_rfl) (by kernel_rfl) (by kernel_rfl)
theorem tok77 : TyOK Tryd.prog 77 ty77 := tyOK_of (by kernel_rfl) (by kernel_rfl) (by kernel_rfl) (by kernel_rfl)
theorem tok78 : TyOK Tryd.prog 78 ty78 := tyOK_of (by kernel_rfl) (by kernel_rfl) (by kernel_rfl) (by kernel_rfl)
theorem tok79 : TyOK Tryd.prog 79 ty79 := tyOK_of (by kernel_rfl) (by kernel_rfl) (by kernel_rfl) (by kernel_rfl)
theorem tok80 : TyOK Tryd.prog 80 ty80 := tyOK_of (by kernel_rfl) (by kernel_rfl) (by kernel_rfl) (by kernel_rfl)
theorem tok82 : TyOK Tryd.prog 82 ty82 := tyOK_of (by kernel_rfl) (by kernel_rfl) (by kernel_rfl) (by kernel_rfl)
theorem tok84 : TyOK Tryd.prog 84 ty84 := tyOK_of (by kernel_rfl) (by kernel_rfl) (by kernel_rfl) (by kernel_rfl)
theorem tok85 : TyOK Tryd.prog 85 ty85 := tyOK_of (by kernel_rfl) (by kernel_rfl) (by kernel_rfl) (by kernel_rfl)
theorem tok87 : TyOK Tryd.prog 87 ty87 := tyOK_of (by kernel_rfl) (by kernel_rfl) (by kernel_rfl) (by kernel_rfl)
theorem tok88 : TyOK Tryd.prog 88 ty88 := tyOK_of (by kernel_rfl) (by kernel_rfl) (by kernel_rfl) (by kernel_rfl)
theorem tok89 : TyOK Tryd.prog 89 ty89 := tyOK_of (by kernel_rfl) (by kernel_rfl) (by kernel_rfl) (by kernel_rfl)
theorem tok90 : TyOK Tryd.prog 90 ty90 := tyOK_of (by kernel_rfl) (by kernel_rfl) (by kernel_rfl) (by kernel_rfl)
theorem tok91 : TyOK Tryd.prog 91 ty91 := tyOK_of (by kernel_rfl) (by kernel_rfl) (by kernel_rfl) (by kernel_rfl)
theorem tok92 : TyOK Tryd.prog 92 ty92 := tyOK_of (by kernel_rfl) (by kernel_rfl) (by kernel_rfl) (by kernel_rfl)
theorem tok93 : TyOK Tryd.prog 93 ty93 := tyOK_of (by kernel_rfl) (by kernel_rfl) (by kernel_rfl) (by kernel_rfl)
theorem tok94 : TyOK Tryd.prog 94 ty94 := tyOK_of (by kernel_rfl) (by kernel_rfl) (by kernel_rfl) (by kernel_rfl)
theorem tok95 : TyOK Tryd.prog 95 ty95 := tyOK_of (by kernel_rfl) (by kernel_rfl) (by kernel_rfl) (by kernel_rfl)
theorem tok96 : TyOK Tryd.prog 96 ty96 := tyOK_of (by kernel_rfl) (by kernel_rfl) (by kernel_rfl) (by kernel_rfl)
theorem tok97 : TyOK Tryd.prog 97 ty97 := tyOK_of (by kernel_rfl) (by kernel_rfl) (by kernel_rfl) (by kernel_rfl)
theorem tok99 : TyOK Tryd.prog 99 ty99 := tyOK_of (by kernel_rfl) (by kernel_rfl) (by kernel_rfl) (by kernel_rfl)
theorem tok100 : TyOK Tryd.prog 100 ty100 := tyOK_of (by kernel_rfl) (by kernel_rfl) (by kernel_rfl) (by kernel_rfl)
theorem tok101 : TyOK Tryd.prog 101 ty101 := tyOK_of (by kernel_rfl) (by kernel_rfl) (by kernel_rfl) (by kernel_rfl)
theorem tok102 : TyOK Tryd.prog 102 ty102 := tyOK_of (by kernel_rfl) (by kernel_rfl) (by kernel_rfl) (by kernel_rfl)
theorem tok103 : TyOK Tryd.prog 103 ty103 := tyOK_of (by kernel_rfl) (by kernel_rfl) (by kernel_rfl) (by kernel_rfl)
theorem tok104 : TyOK Tryd.prog 104 ty104 := tyOK_of (by kernel_rfl) (by kernel_rfl) (by kernel_rfl) (by kernel_rfl)
theorem tok105 : TyOK Tryd.prog 105 ty105 := tyOK_of (by kernel_rfl) (by kernel_rfl) (by kernel_rfl) (by kernel_rfl)
theorem tok107 : TyOK Tryd.prog 107 ty107 := tyOK_of (by kernel_rfl) (by kernel_rfl) (by kernel_rfl) (by kernel_rfl)
theorem tok108 : TyOK Tryd.prog 108 ty108 := tyOK_of (by kernel_rfl) (by kernel_rfl) (by kernel_rfl) (by kernel_rfl)
theorem tok109 : TyOK Tryd.prog 109 ty109 := tyOK_of (by kernel_rfl) (by kernel_rfl) (by kernel_rfl) (by kernel_rfl)
theorem tok110 : TyOK Tryd.prog 110 ty110 := tyOK_of (by kernel_rfl) (by kernel_rfl) (by kernel_rfl) (by kernel_rfl)
theorem tok111 : TyOK Tryd.prog 111 ty111 := tyOK_of (by kernel_rfl) (by kernel_rfl) (by kernel_rfl) (by kernel_rfl)
theorem tok112 : TyOK Tryd.prog 112 ty112 := tyOK_of (by kernel_rfl) (by kernel_rfl) (by kernel_rfl) (by kernel_rfl)
theorem tok114 : TyOK Tryd.prog 114 ty114 := tyOK_of (by kernel_rfl) (by kernel_rfl) (by kernel_rfl) (by kernel_rfl)
theorem tok115 : TyOK Tryd.prog 115 ty115 := tyOK_of (by kernel_rfl) (by kernel_rfl) (by kernel_rfl) (by kernel_rfl)
theorem tok117 : TyOK Tryd.prog 117 ty117 := tyOK_of (by kernel_rfl) (by kernel_rfl) (by kernel_rfl) (by kernel_rfl)
theorem tok118 : TyOK Tryd.prog 118 ty118 := tyOK_of (by kernel_rfl) (by kernel_rfl) (by kernel_rfl) (by kernel_rfl)
theorem tok119 : TyOK Tryd.prog 119 ty119 := tyOK_of (by kernel_rfl) (by kernel_rfl) (by kernel_rfl) (by kernel_rfl)
theorem tok120 : TyOK Tryd.prog 120 ty120 := tyOK_of (by kernel_rfl) (by kernel_rfl) (by kernel_rfl) (by kernel_rfl)
theorem tok121 : TyOK Tryd.prog 121 ty121 := tyOK_of (by kernel_rfl) (by kernel_rfl) (by kernel_rfl) (by kernel_rfl)
theorem tok122 : TyOK Tryd.prog 122 ty122 := tyOK_of (by kernel_rfl) (by kernel_rfl) (by kernel_rfl) (by kernel_rfl)
theorem tok123 : TyOK Tryd.prog 123 ty123 := tyOK_of (by kernel_rfl) (by kernel_rfl) (by kernel_rfl) (by kernel_rfl)
theorem tok125 : TyOK Tryd.prog 125 ty125 := tyOK_of (by kernel_rfl) (by kernel_rfl) (by kernel_rfl) (by kernel_rfl)
theorem tok126 : TyOK Tryd.prog 126 ty126 := tyOK_of (by kernel_rfl) (by kernel_rfl) (by kernel_rfl) (by kernel_rfl)
theorem tok127 : TyOK Tryd.prog 127 ty127 := tyOK_of (by kernel_rfl) (by kernel_rfl) (by kernel_rfl) (by kernel_rfl)
theorem tok128 : TyOK Tryd.prog 128 ty128 := tyOK_of (by kernel_rfl) (by kernel_rfl) (by kernel_rfl) (by kernel_rfl)
theorem tok129 : TyOK Tryd.prog 129 ty129 := tyOK_of (by kernel_rfl) (by kernel_rfl) (by kernel_rfl) (by kernel_rfl)
theorem tok130 : TyOK Tryd.prog 130 ty130 := tyOK_of (by kernel_rfl) (by kernel_rfl) (by kernel_rfl) (by kernel_rfl)
theorem tok131 : TyOK Tryd.prog 131 ty131 := tyOK_of (by kernel_rfl) (by kernel_rfl) (by kernel_rfl) (by kernel_rfl)
theorem tok132 : TyOK Tryd.prog 132 ty132 := tyOK_of (by kernel_rfl) (by kernel_rfl) (by kernel_rfl) (by kernel_rfl)
theorem tok133 : TyOK Tryd.prog 133 ty133 := tyOK_of (by kernel_rfl) (by kernel_rfl) (by kernel_rfl) (by kernel_rfl)
theorem tok134 : TyOK Tryd.prog 134 ty134 := tyOK_of (by kernel_rfl) (by kernel_rfl) (by kernel_rfl) (by kernel_rfl)
theorem tok135 : TyOK Tryd.prog 135 ty135 := tyOK_of (by kernel_rfl) (by kernel_rfl) (by kernel_rfl) (by kernel_rfl)
theorem tok136 : TyOK Tryd.prog 136 ty136 := tyOK_of (by kernel_rfl) (by kernel_rfl) (by kernel_rfl) (by kernel_rfl)
theorem tok137 : TyOK Tryd.prog 137 ty137 := tyOK_of (by kernel_rfl) (by kernel_rfl) (by kernel_rfl) (by kernel_rfl)
theorem tok138 : TyOK Tryd.prog 138 ty138 := tyOK_of (by kernel_rfl) (by kernel_rfl) (by kernel_rfl) (by kernel_rfl)
theorem tok139 : TyOK Tryd.prog 139 ty139 := tyOK_of (by kernel_rfl) (by kernel_rfl) (by kernel_rfl) (by kernel_rfl)
theorem tok140 : TyOK Tryd.prog 140 ty140 := tyOK_of (by kernel_rfl) (by kernel_rfl) (by kernel_rfl) (by kernel_rfl)
theorem tok141 : TyOK Tryd.prog 141 ty141 := tyOK_of (by kernel_rfl) (by kernel_rfl) (by kernel_rfl) (by kernel_rfl)
theorem tok142 : TyOK Tryd.prog 142 ty142 := tyOK_of (by kernel_rfl) (by kernel_rfl) (by kernel_rfl) (by kernel_rfl)
theorem tok143 : TyOK Tryd.prog 143 ty143 := tyOK_of (by kernel_rfl) (by kernel_rfl) (by kernel_rfl) (by kernel_rfl)
theorem tok144 : TyOK Tryd.prog 144 ty144 := tyOK_of (by kernel_rfl) (by kernel_rfl) (by kernel_rfl) (by kernel_rfl)
theorem tok145 : TyOK Tryd.prog 145 ty145 := tyOK_of (by kernel_rfl) (by kernel_rfl) (by kernel_rfl) (by kernel_rfl)
theorem tok146 : TyOK Tryd.prog 146 ty146 := tyOK_of (by kernel_rfl) (by kernel_rfl) (by kernel_rfl) (by kernel_rfl)
theorem tok147 : TyOK Tryd.prog 147 ty147 := tyOK_of (by kernel_rfl) (by kernel_rfl) (by kernel_rfl) (by kernel_rfl)
theorem tok148 : TyOK Tryd.prog 148 ty148 := tyOK_of (by kernel_rfl) (by kernel_rfl) (by kernel_rfl) (by kernel_rfl)
theorem tok149 : TyOK Tryd.prog 149 ty149 := tyOK_of (by kernel_rfl) (by kernel_rfl) (by kernel_rfl) (by kernel_rfl)
theorem tok150 : TyOK Tryd.prog 150 ty150 := tyOK_of (by kernel_rfl) (by kernel_rfl) (by kernel_rfl) (by kernel_rfl)
theorem tok151 : TyOK Tryd.prog 151 ty151 := tyOK_of (by kernel_rfl) (by kernel_rfl) (by kernel_rfl) (by kernel_rfl)
theorem tok152 : TyOK Tryd.prog 152 ty152 := tyOK_of (by kernel_rfl) (by kernel_rfl) (by kernel_rfl) (by kernel_rfl)
theorem tok153 : TyOK Tryd.prog 153 ty153 := tyOK_of (by kernel_rfl) (by kernel_rfl) (by kernel_rfl) (by kernel_rfl)
theorem tok154 : TyOK Tryd.prog 154 ty154 := tyOK_of (by kernel_rfl) (by kernel_rfl) (by kernel_rfl) (by kernel_rfl)
theorem tok155 : TyOK Tryd.prog 155 ty155 := tyOK_of (by kernel_rfl) (by kernel_rfl) (by kernel_rfl) (by kernel_rfl)
theorem tok156 : TyOK Tryd.prog 156 ty156 := tyOK_of (by kernel_rfl) (by kernel_rfl) (by kernel_rfl) (by kernel_rfl)
theorem tok157 : TyOK Tryd.prog 157 ty157 := tyOK_of (by kernel_rfl) (by kernel_rfl) (by kernel_rfl) (by kernel_rfl)
theorem tok158 : TyOK Tryd.prog 158 ty158 := tyOK_of (by kernel_rfl) (by kernel_rfl) (by kernel_rfl) (by kernel_rfl)
theorem tok159 : TyOK Tryd.prog 159 ty159 := tyOK_of (by kernel_rfl) (by kernel_rfl) (by kernel_rfl) (by kernel_rfl)
theorem tok161 : TyOK Tryd.prog 161 ty161 := tyOK_of (by kernel_rfl) (by kernel_rfl) (by kernel_rfl) (by kernel_rfl)
theorem tok163 : TyOK Tryd.prog 163 ty163 := tyOK_of (by kernel_rfl) (by kernel_rfl) (by kernel_rfl) (by kernel_rfl)
theorem tok165 : TyOK Tryd.prog 165 ty165 := tyOK_of (by kernel_rfl) (by kernel_rfl) (by kernel_rfl) (by kernel_rfl)
theorem tok166 : TyOK Tryd.prog 166 ty166 := tyOK_of (by kernel_rfl) (by kernel_rfl) (by kernel_rfl) (by kernel_rfl)
theorem tok167 : TyOK Tryd.prog 167 ty167 := tyOK_of (by kernel_rfl) (by kernel_rfl) (by kernel_rfl) (by kernel_rfl)
theorem tok168 : TyOK Tryd.prog 168 ty168 := tyOK_of (by kernel_rfl) (by kernel_rfl) (by kernel_rfl) (by kernel_rfl)
theorem tok169 : TyOK Tryd.prog 169 ty169 := tyOK_of (by kernel_rfl) (by kernel_rfl) (by kernel_rfl) (by kernel_rfl)
theorem tok170 : TyOK Tryd.prog 170 ty170 := tyOK_of (by kernel_rfl) (by kernel_rfl) (by kernel_rfl) (by kernel_rfl)
theorem tok171 : TyOK Tryd.prog 171 ty171 := tyOK_of (by kernel_rfl) (by kernel_rfl) (by kernel_rfl) (by kernel_rfl)
theorem tok173 : TyOK Tryd.prog 173 ty173 := tyOK_of (by kernel_rfl) (by kernel_rfl) (by kernel_rfl) (by kernel_rfl)
theorem tok174 : TyOK Tryd.prog 174 ty174 := tyOK_of (by kernel_rfl) (by kernel_rfl) (by kernel_rfl) (by kernel_rfl)
theorem tok175 : TyOK Tryd.prog 175 ty175 := tyOK_of (by kernel_rfl) (by kernel_rfl) (by kernel_rfl) (by kernel_rfl)
theorem tok176 : TyOK Tryd.prog 176 ty176 := tyOK_of (by kernel_rfl) (by kernel_rfl) (by kernel_rfl) (by kernel_rfl)
theorem tok177 : TyOK Tryd.prog 177 ty177 := tyOK_of (by kernel_rfl) (by kernel_rfl) (by kernel_rfl) (by kernel_rfl)
theorem tok178 : TyOK Tryd.prog 178 ty178 := tyOK_of (by kernel_rfl) (by kernel_rfl) (by kernel_rfl) (by kernel_rfl)
theorem tok179 : TyOK Tryd.prog 179 ty179 := tyOK_of (by kernel_rfl) (by kernel_rfl) (by kernel_rfl) (by kernel_rfl)
theorem tok180 : TyOK Tryd.prog 180 ty180 := tyOK_of (by kernel_rfl) (by kernel_rfl) (by kernel_rfl) (by kernel_rfl)
theorem tok181 : TyOK Tryd.prog 181 ty181 := tyOK_of (by kernel_rfl) (by kernel_rfl) (by kernel_rfl) (by kernel_rfl)
theorem tok182 : TyOK Tryd.prog 182 ty182 := tyOK_of (by kernel_rfl) (by kernel_rfl) (by kernel_rfl) (by kernel_rfl)
theorem tok183 : TyOK Tryd.prog 183 ty183 := tyOK_of (by kernel_rfl) (by kernel_rfl) (by kernel_rfl) (by kernel_rfl)
theorem tok184 : TyOK Tryd.prog 184 ty184 := tyOK_of (by kernel_rfl) (by kernel_rfl) (by kernel_rfl) (by kernel_rfl)
theorem tok185 : TyOK Tryd.prog 185 ty185 := tyOK_of (by kernel_rfl) (by kernel_rfl) (by kernel_rfl) (by kernel_rfl)
theorem tok186 : TyOK Tryd.prog 186 ty186 := tyOK_of (by kernel_rfl) (by kernel_rfl) (by kernel_rfl) (by kernel_rfl)
theorem tok187 : TyOK Tryd.prog 187 ty187 := tyOK_of (by kernel_rfl) (by kernel_rfl) (by kernel_rfl) (by kernel_rfl)
theorem tok188 : TyOK Tryd.prog 188 ty188 := tyOK_of (by kernel_rfl) (by kernel_rfl) (by kernel_rfl) (by kernel_rfl)
theorem tok189 : TyOK Tryd.prog 189 ty189 := tyOK_of (by kernel_rfl) (by kernel_rfl) (by kernel_rfl) (by kernel_rfl)
theorem tok190 : TyOK Tryd.prog 190 ty190 := tyOK_of (by kernel_rfl) (by kernel_rfl) (by kernel_rfl) (by kernel_rfl)
theorem T_ok : TypesOK Tryd.prog T := typesOK_of (n := 191) (T := T0) (h := ⟨⟨⟨⟨⟨⟨⟨⟨⟨⟨⟨⟨⟨⟨⟨⟨⟨⟨⟨⟨⟨⟨⟨⟨⟨⟨⟨⟨⟨⟨⟨⟨⟨⟨⟨⟨⟨⟨⟨⟨⟨⟨⟨⟨⟨⟨⟨⟨⟨⟨⟨⟨⟨⟨⟨⟨⟨⟨⟨⟨⟨⟨⟨⟨⟨⟨⟨⟨⟨⟨⟨⟨⟨⟨⟨⟨⟨⟨⟨⟨⟨⟨⟨⟨⟨⟨⟨⟨⟨⟨⟨⟨⟨⟨⟨⟨⟨⟨⟨⟨⟨⟨⟨⟨⟨⟨⟨⟨⟨⟨⟨⟨⟨⟨⟨⟨⟨⟨⟨⟨⟨⟨⟨⟨⟨⟨⟨⟨⟨⟨⟨⟨⟨⟨⟨⟨⟨⟨⟨⟨⟨⟨⟨⟨⟨⟨⟨⟨⟨⟨⟨⟨⟨⟨⟨⟨⟨⟨⟨⟨⟨⟨⟨⟨⟨⟨⟨⟨⟨⟨⟨⟨⟨⟨⟨⟨⟨⟨⟨⟨⟨⟨⟨⟨⟨⟨⟨⟨⟨⟨⟨trivial,
 tyAt_none (by kernel_rfl)⟩,
 tyAt_some (by kernel_rfl) tok1⟩,
 tyAt_some (by kernel_rfl) tok2⟩,
 tyAt_some (by kernel_rfl) tok3⟩,
 tyAt_some (by kernel_rfl) tok4⟩,
 tyAt_some (by kernel_rfl) tok5⟩,
 tyAt_some (by kernel_rfl) tok6⟩,
 tyAt_some (by kernel_rfl) tok7⟩,
 tyAt_some (by kernel_rfl) tok8⟩,
 tyAt_some (by kernel_rfl) tok9⟩,
 tyAt_some (by kernel_rfl) tok10⟩,
 tyAt_some (by kernel_rfl) tok11⟩,
 tyAt_some (by kernel_rfl) tok12⟩,
 tyAt_some (by kernel_rfl) tok13⟩,
 tyAt_some (by kernel_rfl) tok14⟩,
 tyAt_some (by kernel_rfl) tok15⟩,
 tyAt_some (by kernel_rfl) tok16⟩,
 tyAt_some (by kernel_rfl) tok17⟩,
 tyAt_some (by kernel_rfl) tok18⟩,
 tyAt_some (by kernel_rfl) tok19⟩,
 tyAt_some (by kernel_rfl) tok20⟩,
 tyAt_some (by kernel_rfl) tok21⟩,
 tyAt_some (by kernel_rfl) tok22⟩,
 tyAt_some (by kernel_rfl) tok23⟩,
 tyAt_some (by kernel_rfl) tok24⟩,
 tyAt_some (by kernel_rfl) tok25⟩,
 tyAt_some (by kernel_rfl) tok26⟩,
 tyAt_some (by kernel_rfl) tok27⟩,
 tyAt_some (by kernel_rfl) tok28⟩,
 tyAt_some (by kernel_rfl) tok29⟩,
 tyAt_none (by kernel_rfl)⟩,
 tyAt_some (by kernel_rfl) tok31⟩,
 tyAt_some (by kernel_rfl) tok32⟩,
 tyAt_some (by kernel_rfl) tok33⟩,
 tyAt_some (by kernel_rfl) tok34⟩,
 tyAt_none (by kernel_rfl)⟩,
 tyAt_some (by kernel_rfl) tok36⟩,
 tyAt_some (by kernel_rfl) tok37⟩,
 tyAt_some (by kernel_rfl) tok38⟩,
 tyAt_some (by kernel_rfl) tok39⟩,
 tyAt_some (by kernel_rfl) tok40⟩,
 tyAt_some (by kernel_rfl) tok41⟩,
 tyAt_some (by kernel_rfl) tok42⟩,
 tyAt_some (by kernel_rfl) tok43⟩,
 tyAt_some (by kernel_rfl) tok44⟩,
 tyAt_some (by kernel_rfl) tok45⟩,
 tyAt_none (by kernel_rfl)⟩,
 tyAt_some (by kernel_rfl) tok47⟩,
 tyAt_some (by kernel_rfl) tok48⟩,
 tyAt_some (by kernel_rfl) tok49⟩,
 tyAt_some (by kernel_rfl) tok50⟩,
 tyAt_some (by kernel_rfl) tok51⟩,
 tyAt_some (by kernel_rfl) tok52⟩,
 tyAt_some (by kernel_rfl) tok53⟩,
 tyAt_some (by kernel_rfl) tok54⟩,
 tyAt_some (by kernel_rfl) tok55⟩,
 tyAt_some (by kernel_rfl) tok56⟩,
 tyAt_some (by kernel_rfl) tok57⟩,
 tyAt_some (by kernel_rfl) tok58⟩,
 tyAt_some (by kernel_rfl) tok59⟩,
 tyAt_some (by kernel_rfl) tok60⟩,
 tyAt_none (by kernel_rfl)⟩,
 tyAt_some (by kernel_rfl) tok62⟩,
 tyAt_none (by kernel_rfl)⟩,
 tyAt_some (by kernel_rfl) tok64⟩,
 tyAt_some (by kernel_rfl) tok65⟩,
 tyAt_some (by kernel_rfl) tok66⟩,
 tyAt_some (by kernel_rfl) tok67⟩,
 tyAt_some (by kernel_rfl) tok68⟩,
 tyAt_some (by kernel_rfl) tok69⟩,
 tyAt_some (by kernel_rfl) tok70⟩,
 tyAt_some (by kernel_rfl) tok71⟩,
 tyAt_some (by kernel_rfl) tok72⟩,
 tyAt_some (by kernel_rfl) tok73⟩,
 tyAt_some (by kernel_rfl) tok74⟩,
 tyAt_some (by kernel_rfl) tok75⟩,
 tyAt_none (by kernel_rfl)⟩,
 tyAt_some (by kernel_rfl) tok77⟩,
 tyAt_some (by kernel_rfl) tok78⟩,
 tyAt_some (by kernel_rfl) tok79⟩,
 tyAt_some (by kernel_rfl) tok80⟩,
 tyAt_none (by kernel_rfl)⟩,
 tyAt_some (by kernel_rfl) tok82⟩,
 tyAt_none (by kernel_rfl)⟩,
 tyAt_some (by kernel_rfl) tok84⟩,
 tyAt_some (by kernel_rfl) tok85⟩,
 tyAt_none (by kernel_rfl)⟩,
 tyAt_some (by kernel_rfl) tok87⟩,
 tyAt_some (by kernel_rfl) tok88⟩,
 tyAt_some (by kernel_rfl) tok89⟩,
 tyAt_some (by kernel_rfl) tok90⟩,
 tyAt_some (by kernel_rfl) tok91⟩,
 tyAt_some (by kernel_rfl) tok92⟩,
 tyAt_some (by kernel_rfl) tok93⟩,
 tyAt_some (by kernel_rfl) tok94⟩,
 tyAt_some (by kernel_rfl) tok95⟩,
 tyAt_some (by kernel_rfl) tok96⟩,
 tyAt_some (by kernel_rfl) tok97⟩,
 tyAt_none (by kernel_rfl)⟩,
 tyAt_some (by kernel_rfl) tok99⟩,
 tyAt_some (by kernel_rfl) tok100⟩,
 tyAt_some (by kernel_rfl) tok101⟩,
 tyAt_some (by kernel_rfl) tok102⟩,
 tyAt_some (by kernel_rfl) tok103⟩,
 tyAt_some (by kernel_rfl) tok104⟩,
 tyAt_some (by kernel_rfl) tok105⟩,
 tyAt_none (by kernel_rfl)⟩,
 tyAt_some (by kernel_rfl) tok107⟩,
 tyAt_some (by kernel_rfl) tok108⟩,
 tyAt_some (by kernel_rfl) tok109⟩,
 tyAt_some (by kernel_rfl) tok110⟩,
 tyAt_some (by kernel_rfl) tok111⟩,
 tyAt_some (by kernel_rfl) tok112⟩,
 tyAt_none (by kernel_rfl)⟩,
 tyAt_some (by kernel_rfl) tok114⟩,
 tyAt_some (by kernel_rfl) tok115⟩,
 tyAt_none (by kernel_rfl)⟩,
 tyAt_some (by kernel_rfl) tok117⟩,
 tyAt_some (by kernel_rfl) tok118⟩,
 tyAt_some (by kernel_rfl) tok119⟩,
 tyAt_some (by kernel_rfl) tok120⟩,
 tyAt_some (by kernel_rfl) tok121⟩,
 tyAt_some (by kernel_rfl) tok122⟩,
 tyAt_some (by kernel_rfl) tok123⟩,
 tyAt_none (by kernel_rfl)⟩,
 tyAt_some (by kernel_rfl) tok125⟩,
 tyAt_some (by kernel_rfl) tok126⟩,
 tyAt_some (by kernel_rfl) tok127⟩,
 tyAt_some (by kernel_rfl) tok128⟩,
 tyAt_some (by kernel_rfl) tok129⟩,
 tyAt_some (by kernel_rfl) tok130⟩,
 tyAt_some (by kernel_rfl) tok131⟩,
 tyAt_some (by kernel_rfl) tok132⟩,
 tyAt_some (by kernel_rfl) tok133⟩,
 tyAt_some (by kernel_rfl) tok134⟩,
 tyAt_some (by kernel_rfl) tok135⟩,
 tyAt_some (by kernel_rfl) tok136⟩,
 tyAt_some (by kernel_rfl) tok137⟩,
 tyAt_some (by kernel_rfl) tok138⟩,
 tyAt_some (by kernel_rfl) tok139⟩,
 tyAt_some (by kernel_rfl) tok140⟩,
 tyAt_some (by kernel_rfl) tok141⟩,
 tyAt_some (by kernel_rfl) tok142⟩,
 tyAt_some (by kernel_rfl) tok143⟩,
 tyAt_some (by kernel_rfl) tok144⟩,
 tyAt_some (by kernel_rfl) tok145⟩,
 tyAt_some (by kernel_rfl) tok146⟩,
 tyAt_some (by kernel_rfl) tok147⟩,
 tyAt_some (by kernel_rfl) tok148⟩,
 tyAt_some (by kernel_rfl) tok149⟩,
 tyAt_some (by kernel_rfl) tok150⟩,
 tyAt_some (by kernel_rfl) tok151⟩,
 tyAt_some (by kernel_rfl) tok152⟩,
 tyAt_some (by kernel_rfl) tok153⟩,
 tyAt_some (by kernel_rfl) tok154⟩,
 tyAt_some (by kernel_rfl) tok155⟩,
 tyAt_some (by kernel_rfl) tok156⟩,
 tyAt_some (by kernel_rfl) tok157⟩,
 tyAt_some (by kernel_rfl) tok158⟩,
 tyAt_some (by kernel_rfl) tok159⟩,
 tyAt_none (by kernel_rfl)⟩,
 tyAt_some (by kernel_rfl) tok161⟩,
 tyAt_none (by kernel_rfl)⟩,
 tyAt_some (by kernel_rfl) tok163⟩,
 tyAt_none (by kernel_rfl)⟩,
 tyAt_some (by kernel_rfl) tok165⟩,
 tyAt_some (by kernel_rfl) tok166⟩,
 tyAt_some (by kernel_rfl) tok167⟩,
 tyAt_some (by kernel_rfl) tok168⟩,
 tyAt_some (by kernel_rfl) tok169⟩,
 tyAt_some (by kernel_rfl) tok170⟩,
 tyAt_some (by kernel_rfl) tok171⟩,
 tyAt_none (by kernel_rfl)⟩,
 tyAt_some (by kernel_rfl) tok173⟩,
 tyAt_some (by kernel_rfl) tok174⟩,
 tyAt_some (by kernel_rfl) tok175⟩,
 tyAt_some (by kernel_rfl) tok176⟩,
 tyAt_some (by kernel_rfl) tok177⟩,
 tyAt_some (by kernel_rfl) tok178⟩,
 tyAt_some (by kernel_rfl) tok179⟩,
 tyAt_some (by kernel_rfl) tok180⟩,
 tyAt_some (by kernel_rfl) tok181⟩,
 tyAt_some (by kernel_rfl) tok182⟩,
 tyAt_some (by kernel_rfl) tok183⟩,
 tyAt_some (by kernel_rfl) tok184⟩,
 tyAt_some (by kernel_rfl) tok185⟩,
 tyAt_some (by kernel_rfl) tok186⟩,
 tyAt_some (by kernel_rfl) tok187⟩,
 tyAt_some (by kernel_rfl) tok188⟩,
 tyAt_some (by kernel_rfl) tok189⟩,
 tyAt_some (by kernel_rfl) tok190⟩)
end Go.Proofs.YtjpmogajlnkihaaDoor.En

/- Words of the library in a form that the kernel reckons: Cut and Split at one byte, Itoa; plain. -/
namespace Go.Proofs.YtjpmogajlnkihaaDoor.En
open Go
set_option linter.unusedVariables false
def cut1 (c : UInt8) : List UInt8 → List UInt8 × List UInt8 × Bool
  | [] => ([], [], false)
  | b :: l => bif b == c then ([], l, true) else match cut1 c l with | (x, y, z) => (b :: x, y, z)
def split1 (c : UInt8) : List UInt8 → List (List UInt8)
  | [] => [[]]
  | b :: l => bif b == c then [] :: split1 c l else match split1 c l with | [] => [[b]] | x :: r => (b :: x) :: r
def digF : Nat → Nat → List UInt8
  | 0, _ => []
  | f + 1, u => bif Nat.blt u 10 then [UInt8.ofNat (48 + u)] else digF f (u / 10) ++ [UInt8.ofNat (48 + u % 10)]
def itoaF (n : Int) : List UInt8 := bif decide (n < 0) then 45 :: digF 20 n.natAbs else digF 20 n.toNat
theorem index_cons1 (b c : UInt8) (l : List UInt8) : Lib.index (b :: l) [c] = if b = c then 0 else if Lib.index l [c] = -1 then -1 else Lib.index l [c] + 1 := by
  rw [Lib.index_one, Lib.index_one]
  show (if b == c then (0 : Int) else if Lib.indexByte l c == -1 then -1 else Lib.indexByte l c + 1) = _
  simp only [beq_iff_eq]
theorem cut_one (c : UInt8) : ∀ s : List UInt8, Lib.cut s [c] = cut1 c s
  | [] => by simp [Lib.cut, Lib.index, cut1]
  | b :: l => by
    have ih := cut_one c l
    have hix := index_cons1 b c l
    have hge := Lib.index_ge l [c]
    unfold Lib.cut at ih ⊢
    unfold cut1
    rw [hix]
    by_cases h : b = c
    · subst h; simp
    · have hb : (b == c) = false := by simpa using h
      rw [if_neg h, hb, cond_false, ← ih]
      by_cases hm : Lib.index l [c] = -1
      · simp [hm]
      · have e : (Lib.index l [c] + 1).toNat = (Lib.index l [c]).toNat + 1 := by omega
        rw [if_neg hm, if_pos (by omega), if_pos (by omega), e]
        simp
theorem split_one (c : UInt8) : ∀ s : List UInt8, Lib.splitK [c] 0 (Lib.count s [c]) s = split1 c s
  | [] => by
    rw [Lib.count_miss (by simp [Lib.index])]; rfl
  | b :: l => by
    have ih := split_one c l
    have hix := index_cons1 b c l
    have hge := Lib.index_ge l [c]
    unfold split1
    by_cases h : b = c
    · subst h
      rw [Lib.count_cons_eq, Nat.add_comm, if_pos rfl] at *
      rw [beq_self_eq_true, cond_true, ← ih]
      show (if Lib.index (b :: l) [b] == -1 then _ else _) = _
      rw [hix]; simp
    · have hb : (b == c) = false := by simpa using h
      rw [if_neg h] at hix
      rw [Lib.count_cons_ne b c l h, hb, cond_false, ← ih]
      by_cases hm : Lib.index l [c] = -1
      · rw [Lib.count_miss hm]; rfl
      · obtain ⟨j, hj⟩ : ∃ j : Nat, Lib.index l [c] = j := ⟨(Lib.index l [c]).toNat, by omega⟩
        rw [if_neg hm, hj] at hix
        rw [Lib.count_hit (by simp) hj, Nat.add_comm]
        have e : ((j : Int) + 1).toNat = j + 1 := by omega
        have e1 : (((j : Int) + 1) == -1) = false := by simp; omega
        have e2 : ((j : Int) == -1) = false := by simp
        simp only [Lib.splitK, hix, hj, e1, e2]
        simp [e]
theorem digF_eq : ∀ (f u : Nat), 0 < f → u < 10 ^ f → digF f u = Lib.decDigits u
  | 0, u, h, _ => by omega
  | f + 1, u, _, h => by
    unfold digF
    rw [Lib.decDigits]
    by_cases hu : u < 10
    · have : Nat.blt u 10 = true := by simpa using hu
      rw [this, cond_true, dif_pos hu]
    · have : Nat.blt u 10 = false := by
        cases h0 : Nat.blt u 10 with
        | false => rfl
        | true => exact absurd (by simpa using h0) hu
      rw [this, cond_false, dif_neg hu]
      have hf : 0 < f := by
        rcases Nat.eq_zero_or_pos f with rfl | h0
        · simp at h; omega
        · exact h0
      rw [digF_eq f (u / 10) hf (by rw [Nat.pow_succ] at h; omega)]
theorem itoaF_eq (n : Int) (h0 : -9223372036854775808 ≤ n) (h1 : n ≤ 9223372036854775807) : Lib.itoa n = itoaF n := by
  unfold Lib.itoa itoaF
  by_cases h : n < 0
  · rw [if_pos h, decide_eq_true h, cond_true, digF_eq 20 _ (by decide) (by omega)]
  · rw [if_neg h, decide_eq_false h, cond_false, digF_eq 20 _ (by decide) (by omega)]
theorem digF_len : ∀ (f u : Nat), (digF f u).length ≤ f
  | 0, u => Nat.le_refl _
  | f + 1, u => by
    unfold digF
    have := digF_len f (u / 10)
    cases Nat.blt u 10 <;> simp <;> omega
theorem itoaF_len (n : Int) : (itoaF n).length ≤ 21 := by
  unfold itoaF
  have h1 := digF_len 20 n.natAbs
  have h2 := digF_len 20 n.toNat
  cases decide (n < 0) <;> simp <;> omega
theorem cut1_len (c : UInt8) : ∀ s : List UInt8, (cut1 c s).1.length ≤ s.length ∧ (cut1 c s).2.1.length ≤ s.length
  | [] => ⟨Nat.le_refl _, Nat.le_refl _⟩
  | b :: l => by
    have ih := cut1_len c l
    unfold cut1
    rcases h : cut1 c l with ⟨x, y, z⟩
    rw [h] at ih
    cases b == c <;> simp at ih ⊢ <;> omega
theorem split1_len (c : UInt8) : ∀ s : List UInt8, (split1 c s).length ≤ s.length + 1 ∧ ∀ x ∈ split1 c s, x.length ≤ s.length
  | [] => by simp [split1]
  | b :: l => by
    obtain ⟨h1, h2⟩ := split1_len c l
    unfold split1
    cases b == c with
    | true =>
      refine ⟨by simp; omega, fun x hx => ?_⟩
      simp at hx
      rcases hx with rfl | hx
      · simp
      · have := h2 x hx; simp; omega
    | false =>
      rw [cond_false]
      split
      · simp
      · rename_i x r e
        rw [e] at h1 h2
        refine ⟨by simp at h1 ⊢; omega, fun y hy => ?_⟩
        rcases List.mem_cons.1 hy with rfl | hy
        · have := h2 x (by simp); simp; omega
        · have := h2 y (by simp [hy]); simp; omega
end Go.Proofs.YtjpmogajlnkihaaDoor.En


namespace Go.Proofs.YtjpmogajlnkihaaDoor.En
open Go Go.Shelf
def renK : Go.Shelf.Ren := ⟨fun k => match k with | 129 => 92 | 138 => 100 | 143 => 101 | 145 => 45 | 146 => 62 | 157 => 55 | 171 => 58 | 195 => 116 | 197 => 117 | 199 => 74 | 217 => 95 | 218 => 118 | 219 => 78 | 220 => 61 | 221 => 79 | 224 => 97 | 225 => 96 | 229 => 73 | 243 => 76 | 246 => 94 | 260 => 124 | 261 => 93 | 266 => 114 | 267 => 98 | 268 => 99 | 283 => 110 | 284 => 111 | 285 => 112 | 286 => 113 | 311 => 108 | 312 => 109 | 314 => 115 | 317 => 120 | 318 => 121 | 319 => 122 | 320 => 123 | 337 => 125 | 338 => 126 | x => x,
  fun k => match k with | 0 => 0 | 2 => 2 | 3 => 3 | 4 => 4 | 5 => 5 | 9 => 9 | 20 => 20 | 21 => 21 | 31 => 72 | 37 => 29 | 40 => 115 | 46 => 66 | 49 => 151 | 51 => 109 | 53 => 132 | 59 => 81 | 105 => 164 | 119 => 113 | 138 => 174 | 139 => 175 | 141 => 137 | 146 => 162 | 152 => 133 | 154 => 135 | 171 => 158 | 173 => 160 | 193 => 147 | 194 => 148 | 196 => 150 | 198 => 153 | 201 => 156 | 212 => 171 | 213 => 172 | 226 => 168 | 227 => 169 | 232 => 176 | 233 => 177 | x => x,
  fun k => match k with | 0 => 0 | 1 => 2 | 3 => 4 | 4 => 5 | 6 => 1 | 17 => 3 | 18 => 6 | 19 => 7 | x => x⟩
end Go.Proofs.YtjpmogajlnkihaaDoor.En

/- strings.Fields, Cut, Split, strconv.Itoa: the library's proved summaries, laid for this seat; as entries of the engine. -/
namespace Go.Proofs.YtjpmogajlnkihaaDoor.En
open Go Go.RowKit Go.Shelf Go.Sort
set_option linter.unusedVariables false
theorem lays157 : Lays.n157 Tryd.prog renK := by
  constructor <;> first | kernel_rfl | (intro w; kernel_rfl)
theorem lays145 : Lays.n145 Tryd.prog renK := by
  constructor <;> first | kernel_rfl | (intro w; kernel_rfl)
theorem lays146 : Lays.n146 Tryd.prog renK := by
  constructor <;> first | kernel_rfl | (intro w; kernel_rfl)
theorem lays171 : Lays.n171 Tryd.prog renK := by
  constructor <;> first | kernel_rfl | (intro w; kernel_rfl)
theorem laysM171 : LaysM.n171 Tryd.prog renK := by
  constructor <;> first | exact lays171 | kernel_rfl | (intro w; kernel_rfl)
theorem hi9K : (Tryd.prog.info? (renK.t 9)).map (fun i => (i.zero, i.size, i.bytes)) = some (some (Value.string ByteArray.empty), 1, 16) := by kernel_rfl
/-! What the package variables hold -/
theorem sk_max {g : G} {w : World} (h : SzOK T g w) : ∃ m, w.cell? ⟨2, 0, none⟩ = some (.int .i64 m) := by
  obtain ⟨_, x, h2, vs, t, f, rfl, _, h4, _⟩ := h.gl 2 (by simp [globD])
  obtain ⟨m, hm⟩ := h4 rfl
  exact ⟨m, by simp [World.cell?, h2, hm]⟩
theorem sk_space {g : G} {w : World} (h : SzOK T g w) : Lib.TabIs Tryd.prog w "strings.asciiSpace" .u8 Lib.asciiSpaceTab := by
  obtain ⟨_, x, h2, vs, t, f, rfl, h3, _, _⟩ := h.gl 0 (by simp [globD])
  obtain rfl := h3 rfl
  unfold Lib.TabIs World.var?
  rw [show Program.globalNamed Tryd.prog "strings.asciiSpace" = some 0 by kernel_rfl, Option.bind_some, h2]
  rfl
theorem sk_pow {g : G} {w : World} (h : SzOK T g w) : Lib.TabIs Tryd.prog w "internal/strconv.uint64pow10" .u64 Lib.pow10Tab := by
  obtain ⟨_, x, h2, vs, t, f, rfl, _, _, h5⟩ := h.gl 3 (by simp [globD])
  obtain rfl := h5 rfl
  unfold Lib.TabIs World.var?
  rw [show Program.globalNamed Tryd.prog "internal/strconv.uint64pow10" = some 3 by kernel_rfl, Option.bind_some, h2]
  rfl
/-! What calls leave -/
theorem below_grow (w : World) (os : Array Obj) : Below w.heap.size w (grow w os) :=
  ⟨rfl, rfl, rfl, by simp [grow], fun b hb => by simp [grow, Array.getElem?_append_left hb]⟩
def newG (g : G) (w : World) : G := { g with Γ := fun b => if b < w.heap.size then g.Γ b else .imm }
theorem newG_tr {g : G} {w w' : World} (hb : Below w.heap.size w w') : PureTr g w (newG g w) w' :=
  ⟨⟨hb.os, hb.tape, hb.output, hb.size, hb.block⟩, fun b hlt => if_pos hlt, fun b hge => by
    show Perm.still (if b < w.heap.size then g.Γ b else .imm) = true
    rw [if_neg (by omega)]; rfl, rfl, rfl⟩
theorem strs_rep {g : G} {w w' : World} (hg : g.sz 9 = 1) {ls : List (List UInt8)} {n : Nat} (hn : ls.length = n) (hm : n ≤ maxLen) (hl : ∀ l ∈ ls, l.length ≤ 9223372036854775807)
    (hw : w' = w.alloc (.cells (ls.map fun l => Value.string ⟨l.toArray⟩).toArray 9)) : RepV (newG g w) w' (.sl 9 (ls.map V.str)) (.slice (some ⟨w.heap.size, 0, none⟩) n n) := by
  have hf : (ls.map V.str).flatMap V.cells = ls.map V.str := by
    clear hn hl hw
    induction ls with
    | nil => rfl
    | cons l ls ih => simp only [List.map_cons, List.flatMap_cons, ih]; rfl
  subst hw
  refine .sl 9 _ _ n n (fun k => (Value.string ⟨(ls.getD k []).toArray⟩)) (by simpa using hn) (Nat.le_refl _) hm (fun x hx => ?_) (fun k y hk => ?_) (fun k y hk => ?_)
  · obtain ⟨l, _, rfl⟩ := List.mem_map.1 hx
    show okEl (g.sz 9) _ = true
    rw [hg]; rfl
  · rw [hf, List.getElem?_map, Option.map_eq_some_iff] at hk
    obtain ⟨l, hl', rfl⟩ := hk
    refine ⟨w.heap.size, 0, rfl, ?_, ?_⟩
    · unfold Stable
      show (match (if w.heap.size < w.heap.size then g.Γ w.heap.size else Perm.imm) with | .imm => True | .low n => 0 + k < n | .own _ n => 0 + k < n | .box _ _ => False)
      rw [if_neg (by omega)]
      trivial
    · rw [cell_of_row _ _ _ _ _ _ (heap_alloc_new w _)]
      simp [List.getD, hl']
  · rw [hf, List.getElem?_map, Option.map_eq_some_iff] at hk
    obtain ⟨l, hl', rfl⟩ := hk
    have : ls.getD k [] = l := by simp [List.getD, hl']
    rw [this]
    exact .str l (hl l (List.mem_of_getElem? hl'))
theorem sz_str {g : G} {w : World} (h : SzOK T g w) : g.sz 9 = 1 := by rw [h.eq]; kernel_rfl
/-! strings.Fields -/
def allA (l : List UInt8) : Bool := l.all fun b => Nat.blt b.toNat 128
def s_Fields (N : Nat) (s : List UInt8) : Option (List V) := br (allA s && Nat.ble s.length 1000000) (some ((Lib.fields s).map V.str)) none
theorem fieldsGo_len : ∀ (l cur : List UInt8), (Lib.fieldsGo cur l).length ≤ l.length + 1 ∧ ∀ x ∈ Lib.fieldsGo cur l, x.length ≤ cur.length + l.length
  | [], cur => by unfold Lib.fieldsGo; split <;> simp
  | b :: l, cur => by
    obtain ⟨h1, h2⟩ := fieldsGo_len l []
    obtain ⟨h3, h4⟩ := fieldsGo_len l (cur ++ [b])
    unfold Lib.fieldsGo
    split
    · split
      · exact ⟨by simp; omega, fun x hx => by have := h2 x hx; simp at this ⊢; omega⟩
      · refine ⟨by simp; omega, fun x hx => ?_⟩
        rcases List.mem_cons.1 hx with rfl | hx
        · simp
        · have := h2 x hx; simp at this ⊢; omega
    · exact ⟨by simp; omega, fun x hx => by have := h4 x hx; simp at this ⊢; omega⟩
theorem p_Fields (N : Nat) (x0 : List UInt8) (r0 : List V) (h : s_Fields N x0 = some r0) : PureRet Tryd.prog T 55 [.v (.str x0) .no] [.v (.sl 9 r0) .no] := by
  unfold s_Fields br at h
  cases hc : allA x0 && Nat.ble x0.length 1000000 with
  | false => rw [hc] at h; cases h
  | true =>
  rw [hc, cond_true] at h
  injection h with h
  subst h
  simp only [Bool.and_eq_true, Nat.ble_eq] at hc
  obtain ⟨hA, hlen⟩ := hc
  intro E g w us hsz hus
  obtain ⟨hl, hr⟩ := hus
  match us, hl with
  | [u], _ =>
  have hu := hr 0 _ rfl
  simp only [List.getD_cons_zero] at hu
  cases hu with | v x a u hu ha =>
  cases hu with | str s hs =>
  obtain ⟨hb1, hb2⟩ := fieldsGo_len x0 []
  refine (Any.strings_Fields (P := Tryd.prog) lays157 hi9K (by kernel_rfl) ⟨x0.toArray⟩ w (by simp [ByteArray.size]; omega) (fun j b hj => ?_) (sk_space hsz)).mono ?_
  · simp at hj
    have := List.all_eq_true.1 hA b (List.mem_of_getElem? hj)
    simpa using this
  · rintro e w' ⟨rfl, hw⟩
    have hb : Below w.heap.size w w' := by rw [hw]; exact (Below.refl _ _).alloc (Nat.le_refl _) _
    refine ⟨[.slice (some ⟨w.heap.size, 0, none⟩) (Lib.fields x0).length (Lib.fields x0).length], newG g w, rfl, fun E' => ⟨rfl, fun k y hk => ?_⟩, newG_tr hb⟩
    rcases k with _ | k
    · simp at hk
      subst hk
      refine .v _ _ _ (strs_rep (sz_str hsz) rfl ?_ ?_ hw) trivial
      · show (Lib.fieldsGo [] _).length ≤ _
        unfold maxLen; omega
      · intro l hl; have := hb2 l hl; simp at this; omega
    · simp at hk
/-! strings.Cut, Split, at one byte -/
def s_Cut (N : Nat) (s sep : List UInt8) : Option (List UInt8 × List UInt8 × Bool) := match sep with | [c] => br (Nat.ble s.length 1000000) (some (cut1 c s)) none | _ => none
theorem p_Cut (N : Nat) (x0 x1 : List UInt8) (r0 r1 : List UInt8) (r2 : Bool) (h : s_Cut N x0 x1 = some (r0, r1, r2)) : PureRet Tryd.prog T 45 [.v (.str x0) .no, .v (.str x1) .no] [.v (.str r0) .no, .v (.str r1) .no, .v (.bool r2) .no] := by
  unfold s_Cut at h
  match x1, h with
  | [c], h =>
  unfold br at h
  cases hc : Nat.ble x0.length 1000000 with
  | false => simp [hc] at h
  | true =>
  simp only [hc, cond_true] at h
  injection h with h
  simp only [Nat.ble_eq] at hc
  intro E g w us hsz hus
  obtain ⟨hl, hr⟩ := hus
  match us, hl with
  | [u, v], _ =>
  have hu := hr 0 _ rfl
  have hv := hr 1 _ rfl
  simp only [List.getD_cons_zero, List.getD_cons_succ] at hu hv
  cases hu with | v x a u hu ha =>
  cases hu with | str s hs =>
  cases hv with | v x a u hv ha' =>
  cases hv with | str s hs' =>
  obtain ⟨m, hm⟩ := sk_max hsz
  obtain ⟨hb1, hb2⟩ := cut1_len c x0
  refine (Any.strings_Cut (P := Tryd.prog) lays145 ⟨x0.toArray⟩ ⟨#[c]⟩ m w (by simp [ByteArray.size]; omega) hm).mono ?_
  rintro e w' ⟨rfl, k, rfl⟩
  have e1 : Lib.cut (⟨x0.toArray⟩ : ByteArray).data.toList (⟨#[c]⟩ : ByteArray).data.toList = cut1 c x0 := cut_one c x0
  rw [e1, h]
  rw [h] at hb1 hb2
  have hb : Below w.heap.size w (w.drewN k) := below_drewN (Below.refl _ _) k
  refine ⟨[.string ⟨r0.toArray⟩, .string ⟨r1.toArray⟩, .bool r2], newG g w, rfl, fun E' => ⟨rfl, fun j y hk => ?_⟩, newG_tr hb⟩
  rcases j with _ | _ | _ | j
  · simp at hk; subst hk; exact .v _ _ _ (.str _ (by simp at hb1; omega)) trivial
  · simp at hk; subst hk; exact .v _ _ _ (.str _ (by simp at hb2; omega)) trivial
  · simp at hk; subst hk; exact .v _ _ _ (.bool _) trivial
  · simp at hk
def s_Split (N : Nat) (s sep : List UInt8) : Option (List V) := match sep with | [c] => br (Nat.ble s.length 1000000) (some ((split1 c s).map V.str)) none | _ => none
theorem p_Split (N : Nat) (x0 x1 : List UInt8) (r0 : List V) (h : s_Split N x0 x1 = some r0) : PureRet Tryd.prog T 62 [.v (.str x0) .no, .v (.str x1) .no] [.v (.sl 9 r0) .no] := by
  unfold s_Split at h
  match x1, h with
  | [c], h =>
  unfold br at h
  cases hc : Nat.ble x0.length 1000000 with
  | false => simp [hc] at h
  | true =>
  simp only [hc, cond_true] at h
  injection h with h
  subst h
  simp only [Nat.ble_eq] at hc
  intro E g w us hsz hus
  obtain ⟨hl, hr⟩ := hus
  match us, hl with
  | [u, v], _ =>
  have hu := hr 0 _ rfl
  have hv := hr 1 _ rfl
  simp only [List.getD_cons_zero, List.getD_cons_succ] at hu hv
  cases hu with | v x a u hu ha =>
  cases hu with | str s hs =>
  cases hv with | v x a u hv ha' =>
  cases hv with | str s hs' =>
  obtain ⟨m, hm⟩ := sk_max hsz
  obtain ⟨hb1, hb2⟩ := split1_len c x0
  refine (Any.strings_Split (P := Tryd.prog) lays146 hi9K ⟨x0.toArray⟩ ⟨#[c]⟩ m w (by simp [ByteArray.size]; omega) hm (by simp [ByteArray.size])).mono ?_
  rintro e w' ⟨rfl, hw⟩
  have hdata : (Lib.splitB ⟨#[c]⟩ 0 (Lib.countB ⟨x0.toArray⟩ ⟨#[c]⟩) ⟨x0.toArray⟩).map (·.data.toList) = split1 c x0 := by
    rw [Lib.splitB_data]
    exact split_one c x0
  have hvals : (Lib.splitB ⟨#[c]⟩ 0 (Lib.countB ⟨x0.toArray⟩ ⟨#[c]⟩) ⟨x0.toArray⟩).map Value.string = (split1 c x0).map fun l => Value.string ⟨l.toArray⟩ := by
    rw [← hdata, List.map_map]
    apply List.map_congr_left
    intro b _
    simp
  have hcount : Lib.countB ⟨x0.toArray⟩ ⟨#[c]⟩ + 1 = (split1 c x0).length := by
    have h1 := Lib.splitB_all ⟨#[c]⟩ (by simp [ByteArray.size]) 0 _ ⟨x0.toArray⟩ rfl
    rw [← h1, ← hdata, List.length_map]
  rw [hvals] at hw
  rw [hcount]
  have hb : Below w.heap.size w w' := by rw [hw]; exact (Below.refl _ _).alloc (Nat.le_refl _) _
  refine ⟨[.slice (some ⟨w.heap.size, 0, none⟩) (split1 c x0).length (split1 c x0).length], newG g w, rfl, fun E' => ⟨rfl, fun k y hk => ?_⟩, newG_tr hb⟩
  rcases k with _ | k
  · simp at hk
    subst hk
    exact .v _ _ _ (strs_rep (sz_str hsz) rfl (by unfold maxLen; omega) (fun l hl => by have := hb2 l hl; omega) hw) trivial
  · simp at hk
/-! strconv.Itoa -/
def s_Itoa (N : Nat) (n : Int) : Option (List UInt8) := some (itoaF n)
theorem p_Itoa (N : Nat) (x0 : Int) (r0 : List UInt8) (h : s_Itoa N x0 = some r0) : PureRet Tryd.prog T 58 [.v (.int .i64 x0) .no] [.v (.str r0) .no] := by
  injection h with h
  subst h
  intro E g w us hsz hus
  obtain ⟨hl, hr⟩ := hus
  match us, hl with
  | [u], _ =>
  have hu := hr 0 _ rfl
  simp only [List.getD_cons_zero] at hu
  cases hu with | v x a u hu ha =>
  cases hu with | int k n hi =>
  have hi' : (-9223372036854775808 : Int) ≤ x0 ∧ x0 ≤ (9223372036854775807 : Int) := hi
  refine (Any.strconv_Itoa (P := Tryd.prog) laysM171 x0 hi'.1 hi'.2 w (sk_pow hsz)).mono ?_
  rintro e w' ⟨rfl, k, os, rfl⟩
  rw [itoaF_eq x0 hi'.1 hi'.2]
  have hb : Below w.heap.size w (grow (w.drewN k) os) := (below_drewN (Below.refl _ _) k).trans (below_grow (w.drewN k) os)
  refine ⟨[.string ⟨(itoaF x0).toArray⟩], newG g w, rfl, fun E' => ⟨rfl, fun j y hk => ?_⟩, newG_tr hb⟩
  rcases j with _ | j
  · simp at hk; subst hk; exact .v _ _ _ (.str _ (by have := itoaF_len x0; omega)) trivial
  · simp at hk
end Go.Proofs.YtjpmogajlnkihaaDoor.En

/- The engine, part 2f: a strings.Builder takes down its own address. -/
namespace Go.Proofs.YtjpmogajlnkihaaDoor.En
open Go
set_option linter.unusedVariables false
section
variable {P : Program} {T : TypeId → Option Ty} {E : Env} {g : G} {w : World}
theorem bld_here {m : Mem} (hh : Here T E g w m) {k s : Nat} {b : Bx} {us : Array Value} (hb : m.box? k s = some b) (h0 : b.cells[0]? = some .bld) (hB : w.heap[g.J (E.d - k) s]? = some (.cells us b.ty (0, 0))) {w' : World}
    (hw : w' = w.setCell ⟨g.J (E.d - k) s, 0, none⟩ (.pointer (some ⟨g.J (E.d - k) s, 0, none⟩))) : Later g w g w' ∧ (∀ p e v, OwnAt g w p e v → OwnAt g w' p e v) ∧ Here T E g w' m ∧ ∀ d, Tr d g w g w' := by
  rw [setCell_eq_setRow w _ 0 us b.ty (0, 0) _ hB] at hw
  have hr := hh.mem k s b hb
  have hperm := hr.perm
  obtain ⟨us', b1, b2, b3⟩ := hr.heap
  rw [hB] at b1
  injection b1 with b1
  injection b1 with b1 _ _
  subst b1
  generalize hX : g.J (E.d - k) s = B at *
  generalize hcs : us.setIfInBounds 0 (.pointer (some ⟨B, 0, none⟩)) = cs at *
  subst hw
  have hlat : Later g w g (w.setRow B cs) := by
    have := later_row (g := g) (cs := cs) hB (.box (E.d - k) s) (fun e => by rw [hperm] at e; cases e) (fun o hs => by unfold Stable at hs; rw [hperm] at hs; exact hs.elim)
    rwa [at_self hperm] at this
  have hown : ∀ (p : APos) e v, OwnAt g w p e v → OwnAt g (w.setRow B cs) p e v := fun p e v h => by
    have := own_row (cs := cs) (.box (E.d - k) s) (fun n hn => by rw [hperm] at hn; cases hn) h
    rwa [at_self hperm] at this
  have hk : ∀ dd, Keeps E g w dd E g (w.setRow B cs) dd := fun dd => ⟨hlat, rfl, fun _ _ h => h, fun _ _ _ _ => rfl, fun _ h => h, fun p e v _ _ h => hown _ e v h⟩
  refine ⟨hlat, hown, ⟨fun k' s' b' hb' => ?_, hh.dom, hh.sk.later hlat, hh.len⟩, fun d => ⟨rfl, rfl, rfl, Nat.le_of_eq (setRow_size w B cs).symm, hlat, fun x hx hi => ⟨rfl, ?_⟩, fun _ _ _ => rfl⟩⟩
  · have hr' := hh.mem k' s' b' hb'
    obtain ⟨vs, c1, c2, c3⟩ := hr'.heap
    by_cases hJ : g.J (E.d - k') s' = B
    · have h7 := hr'.perm
      rw [hJ, hperm] at h7
      injection h7 with h7 h8
      have hle := hr.le
      have hle' := hr'.le
      have : k' = k := by omega
      subst this h8
      rw [hb] at hb'
      injection hb' with hb'
      subst hb'
      refine ⟨hr.le, by rw [hX]; exact hperm, cs, by rw [hX]; exact setRow_heap w B _ cs _ _ hB, by rw [← hcs]; simpa using b2, fun i c hc => ?_⟩
      obtain ⟨a1, a2, a3, a4⟩ := b3 i c hc
      rcases i with _ | i
      · rw [h0] at hc
        injection hc with hc
        subst hc
        have h9 : 0 < us.size := by rw [b2]; exact (List.getElem?_eq_some_iff.1 h0).1
        refine ⟨a1, a2, fun _ => .inr ?_, .any _⟩
        rw [← hcs, hX]
        simp [Array.getD_eq_getD_getElem?, h9]
      · have e1 : cs.getD (i + 1) undef = us.getD (i + 1) undef := by
          rw [← hcs]
          simp only [Array.getD_eq_getD_getElem?]
          rw [Array.getElem?_setIfInBounds_ne (by omega)]
        rw [e1]
        refine ⟨a1, a2, by rw [hX]; exact a3, a4.keep (hk [])⟩
    · refine ⟨hr'.le, hr'.perm, vs, by rw [setRow_other w B _ cs hJ]; exact c1, c2, fun i c hc => ?_⟩
      obtain ⟨a1, a2, a3, a4⟩ := c3 i c hc
      exact ⟨a1, a2, a3, a4.keep (hk [])⟩
  · have hne : x ≠ B := fun e => by
      subst e
      rw [hperm] at hi
      rcases hi with hi | ⟨n, hi⟩ <;> cases hi
    exact setRow_other w B x cs hne

/-! An owner gives up its row -/
/-- Only block x changes, and none of its cells. -/
structure Calm (x : Nat) (w w' : World) : Prop where
  os : w'.os = w.os
  tape : w'.tape = w.tape
  output : w'.output = w.output
  size : w'.heap.size = w.heap.size
  other : ∀ b, b ≠ x → w'.heap[b]? = w.heap[b]?
  cell : ∀ o, w'.cell? ⟨x, o, none⟩ = w.cell? ⟨x, o, none⟩
theorem disown_later {x : Nat} {w' : World} (hc : Calm x w w') {q : APos} {n : Nat} (hq : g.Γ x = .own q n) : Later g w (g.at_ x (.low n)) w' :=
  ⟨rfl, fun b o v h1 h2 => by
    by_cases hb : b = x
    · subst hb
      refine ⟨?_, by rw [hc.cell]; exact h2⟩
      unfold Stable at h1 ⊢
      rw [hq] at h1
      rw [G.at_eq]
      exact h1
    · exact ⟨(stable_at hb).2 h1, by rw [cell_of_heap (hc.other b hb)]; exact h2⟩, fun b o h1 h2 => by
    have hb : b ≠ x := fun e => by subst e; rw [hq] at h1; cases h1
    exact ⟨by rw [G.at_ne _ _ _ hb]; exact h1, by rw [hc.other b hb]; exact h2⟩⟩
theorem disown_own {x : Nat} {w' : World} (hc : Calm x w w') {q p : APos} {n : Nat} (hq : g.Γ x = .own q n) (hp : p ≠ q) {e : TypeId} {v : Value} (h : OwnAt g w p e v) : OwnAt (g.at_ x (.low n)) w' p e v := by
  rcases h with h0 | ⟨b, n', cap, cur, h1, h2, h3, h4⟩
  · exact .inl h0
  · have hb : b ≠ x := fun e0 => by
      subst e0
      rw [hq] at h2
      injection h2 with h2 _
      exact hp h2.symm
    exact .inr ⟨b, n', cap, cur, h1, by rw [G.at_ne _ _ _ hb]; exact h2, by rw [hc.other b hb]; exact h3, h4⟩
theorem weak_here {m : Mem} (hh : Here T E g w m) {k s : Nat} {b : Bx} (hb : m.box? k s = some b) : Here T E g w (m.setBox k s ⟨b.ty, b.cells.map weakD⟩) := by
  refine ⟨fun k' s' b' hb' => ?_, ?_, hh.sk, by rw [setBox_length]; exact hh.len⟩
  · rw [box_set] at hb'
    split at hb'
    · rename_i hx
      obtain ⟨rfl, rfl, _⟩ := hx
      injection hb' with hb'
      subst hb'
      have hr := hh.mem k' s' b hb
      obtain ⟨us, b1, b2, b3⟩ := hr.heap
      refine ⟨hr.le, hr.perm, us, b1, by rw [b2]; simp, fun i c' hc => ?_⟩
      simp only [List.getElem?_map, Option.map_eq_some_iff] at hc
      obtain ⟨c, hc, rfl⟩ := hc
      obtain ⟨a1, a2, a3, a4⟩ := b3 i c hc
      cases c with
      | v x at_ =>
        cases at_ with
        | own p e => exact ⟨a1, rfl, fun e => (by cases e), .v _ _ _ (repV_of a4) trivial⟩
        | no => exact ⟨a1, a2, a3, a4⟩
        | nil e => exact ⟨a1, a2, a3, a4⟩
      | _ => exact ⟨a1, a2, a3, a4⟩
    · exact hh.mem k' s' b' hb'
  · rw [hh.dom]
    funext k' s'
    unfold memDom
    rw [box_set]
    split
    · rename_i hx
      obtain ⟨rfl, rfl, _⟩ := hx
      rw [hb]; simp
    · rfl
theorem disown_here {m : Mem} {x : Nat} {w' : World} (hc : Calm x w w') {k s i n : Nat} (hq : g.Γ x = .own (.cell (E.d - k) s i) n) (hk : k ≤ E.d) (hh : Here T E g w m) (hno : ∀ b, m.box? k s = some b → ∀ (i : Nat) c, b.cells[i]? = some c → c.noOwn = true) :
    Here T E (g.at_ x (.low n)) w' m ∧ KeepsS E g w E (g.at_ x (.low n)) w' ∧ ∀ d, Tr d g w (g.at_ x (.low n)) w' := by
  have hlat := disown_later hc hq
  have hks : KeepsS E g w E (g.at_ x (.low n)) w' := ⟨hlat, rfl, fun _ _ h => h, fun _ _ _ _ => rfl, fun s' e v ho => disown_own hc hq (by simp) ho⟩
  refine ⟨⟨fun k' s' b hb => ?_, hh.dom, hh.sk.later hlat, hh.len⟩, hks, fun d => ⟨hc.os, hc.tape, hc.output, Nat.le_of_eq hc.size.symm, hlat, fun b _ hi => ?_, fun _ _ _ => rfl⟩⟩
  · have hr := hh.mem k' s' b hb
    obtain ⟨us, b1, b2, b3⟩ := hr.heap
    have hne : g.J (E.d - k') s' ≠ x := fun e => by
      have := hr.perm
      rw [e, hq] at this
      cases this
    refine ⟨hr.le, ?_, us, ?_, b2, fun i' c hc' => ?_⟩
    · show (g.at_ x (.low n)).Γ (g.J (E.d - k') s') = _
      rw [G.at_ne _ _ _ hne]; exact hr.perm
    · show w'.heap[g.J (E.d - k') s']? = _
      rw [hc.other _ hne]; exact b1
    · obtain ⟨a1, a2, a3, a4⟩ := b3 i' c hc'
      refine ⟨a1, a2, a3, ?_⟩
      by_cases hpos : k' = k ∧ s' = s
      · obtain ⟨rfl, rfl⟩ := hpos
        have hn := hno b hb i' c hc'
        refine noOwn_keep hks a4 ?_
        cases c with
        | v y at_ =>
          cases at_ with
          | own p e => simp [D.noOwn] at hn
          | no => rfl
          | nil e => rfl
        | bld => rfl
        | _ => exact noOwn_shift k' _ hn
      · refine cell_move a2 a4 (by simp) (fun _ _ => true) hlat rfl (fun _ _ h _ => h) (fun _ _ _ _ _ => rfl) (fun e v ho => disown_own hc hq (fun e0 => ?_) ho) (fun _ => true) (fun _ _ _ _ => rfl) (fun _ _ _ _ _ _ => rfl) (fun _ _ _ _ _ => rfl) (fun _ _ _ _ _ => rfl) rfl (fun _ _ => rfl)
        injection e0 with e1 e2 _
        have := hr.le
        exact hpos ⟨by omega, e2⟩
  · have hne : b ≠ x := fun e => by
      subst e
      rw [hq] at hi
      rcases hi with hi | ⟨n', hi⟩ <;> cases hi
    exact ⟨G.at_ne _ _ _ hne, hc.other b hne⟩
end
end Go.Proofs.YtjpmogajlnkihaaDoor.En

/- (*strings.Builder).copyCheck: the walk; as an entry. -/
namespace Go.Proofs.YtjpmogajlnkihaaDoor.En
open Go Go.RowKit
set_option linter.unusedVariables false
theorem sizeBuilder : (Tryd.prog.info? 71).map (·.size) = some 2 := by kernel_rfl
theorem liesBuilder : liesAt Tryd.prog Tryd.prog.depth 71 (2 / Tryd.prog.cellsOf 71) 0 71 1 = true := by kernel_rfl
set_option maxHeartbeats 1000000 in
set_option maxRecDepth 100000 in
theorem cc_used (b : Nat) (w : World) (h0 : w.cell? ⟨b, 0, none⟩ = some (.pointer (some ⟨b, 0, none⟩))) :
    Calls Tryd.prog 56 #[.pointer (some ⟨b, 0, none⟩)] w fun e w' => e = .returned (.tuple #[]) ∧ w' = w := by
  obtain ⟨j, hj, _⟩ := Option.map_eq_some_iff.1 sizeBuilder
  go_enter Tryd.func56, Tryd.ntmps56
  go_wp2
  rw [Lib.run_neq_ptr_same w _ Tryd.underlying69 hj]
  go_wp2
  go_end0
  exact ⟨rfl, rfl⟩
set_option maxHeartbeats 1000000 in
set_option maxRecDepth 100000 in
theorem cc_fresh (b : Nat) (w : World) (h0 : w.cell? ⟨b, 0, none⟩ = some (.pointer none)) (hsh : w.shape? b = some (71, 2)) (hfz : w.frozen? ⟨b, 0, none⟩ = false) :
    Calls Tryd.prog 56 #[.pointer (some ⟨b, 0, none⟩)] w fun e w' => e = .returned (.tuple #[]) ∧ w' = w.setCell ⟨b, 0, none⟩ (.pointer (some ⟨b, 0, none⟩)) := by
  obtain ⟨j, hj, hjs⟩ := Option.map_eq_some_iff.1 sizeBuilder
  go_enter Tryd.func56, Tryd.ntmps56
  go_wp2
  rw [Lib.run_to_unsafe w ⟨b, 0, none⟩ Tryd.underlying69 Tryd.underlying116 hj (by rw [hjs]; decide) hsh (Nat.zero_lt_succ 1)]
  simp only [Result.andThen]
  rw [Oper.upon_value]
  go_wp2
  rw [run_callFunc_extern Tryd.func75 (by kernel_rfl) (by kernel_rfl) (by kernel_rfl) (e := Extern.AbiNoEscape.same) (by kernel_rfl)]
  rw [Lib.run_noEscape]
  simp only [Result.andThen]
  rw [Oper.upon_value]
  go_wp2
  rw [Lib.run_from_unsafe w ⟨b, 0, none⟩ Tryd.underlying116 Tryd.underlying69 hj hsh liesBuilder]
  simp only [Result.andThen]
  rw [Oper.upon_value]
  go_wp2
  go_end0
  exact ⟨rfl, rfl⟩
theorem here_same {T : TypeId → Option Ty} {E : Env} {g : G} {w : World} {m m' : Mem} (hb : ∀ k s, m'.box? k s = m.box? k s) (hl : m'.length = m.length) (hh : Here T E g w m) : Here T E g w m' :=
  ⟨fun k s b h => hh.mem k s b (by rw [← hb]; exact h), by rw [hh.dom]; funext k s; unfold memDom; rw [hb], hh.sk, by rw [hl]; exact hh.len⟩
noncomputable def s_copyCheck (N : Nat) (l : List UInt8) : Option Unit := some ()
theorem p_copyCheck (N : Nat) (l : List UInt8) (h : s_copyCheck N l = some ()) : ViewRet Tryd.prog T 56 [.ptr 1 0 0] [⟨71, [.bld, .v (.bytes l) (.own (.slot 0) 5)]⟩] [] [⟨71, [.bld, .v (.bytes l) (.own (.slot 0) 5)]⟩] := by
  intro ps ds m dst hone hget hlen har E g w us hh hus
  match ps, hlen with
  | [(k, s)], _ =>
  match ds, har with
  | [y], ⟨h1, _⟩ =>
  generalize hy : D.ptr 1 0 0 = y₁ at h1
  cases h1 <;> cases hy
  rename_i k0 s0 hq
  obtain ⟨k', rfl, _, hk'⟩ := hq
  simp at hk'
  obtain ⟨rfl, rfl⟩ := hk'
  obtain ⟨hl, hr⟩ := hus
  match us, hl with
  | [u], _ =>
  have hu := hr 0 _ rfl
  simp only [List.getD_cons_zero] at hu
  cases hu with
  | ptr k' s' o a1 a2 =>
  have eJ : (inner E m).d - (k + 1) = E.d - k := by show E.d + 1 - (k + 1) = _; omega
  rw [eJ]
  obtain ⟨B, hB, hB'⟩ := hget 0 (k, s) rfl
  simp at hB'
  subst hB'
  simp only at hB
  have hbr := hh.mem k s _ hB
  obtain ⟨cs, b1, b2, b3⟩ := hbr.heap
  have c0 := b3 0 .bld rfl
  have hcell : w.cell? ⟨g.J (E.d - k) s, 0, none⟩ = some (cs.getD 0 undef) := by
    rw [cell_of_row w _ 0 cs _ _ b1]
    have : 0 < cs.size := by rw [b2]; simp
    simp [this]
  have hsame : ∀ k2 s2, (setAll [(k, s)] [⟨71, [.bld, .v (.bytes l) (.own (.slot 0) 5)]⟩] m).box? k2 s2 = m.box? k2 s2 := by
    intro k2 s2
    simp only [setAll]
    rw [box_set]
    split
    · rename_i hc; obtain ⟨rfl, rfl, _⟩ := hc; exact hB.symm
    · rfl
  have hlen2 : (setAll [(k, s)] [⟨71, [.bld, .v (.bytes l) (.own (.slot 0) 5)]⟩] m).length = m.length := setAll_length _ _ _
  rcases c0.2.2.1 rfl with hn | hn
  · rw [hn] at hcell
    refine (cc_fresh _ w hcell ?_ ?_).mono ?_
    · unfold World.shape?
      rw [b1]
      simp at b2
      simp [b2]
    · simp [World.frozen?, b1]
    · rintro e w' ⟨rfl, hw⟩
      obtain ⟨d1, d2, d3, d4⟩ := bld_here hh hB rfl b1 hw
      exact ⟨[], g, E, rfl, ⟨d1, rfl, fun _ _ h => h, fun _ _ _ _ => rfl, fun s e v ho => d2 _ e v ho⟩, here_same hsame hlen2 d3, ⟨rfl, fun k y h => by simp at h⟩, d4 _⟩
  · rw [hn] at hcell
    refine (cc_used _ w hcell).mono ?_
    rintro e w' ⟨rfl, rfl⟩
    exact ⟨[], g, E, rfl, ⟨Later.refl _ _, rfl, fun _ _ h => h, fun _ _ _ _ => rfl, fun s e v ho => ho⟩, here_same hsame hlen2 hh, ⟨rfl, fun k y h => by simp at h⟩, Tr.refl _ _ _⟩
end Go.Proofs.YtjpmogajlnkihaaDoor.En

/- (*strings.Builder).String: the walk; as an entry. -/
namespace Go.Proofs.YtjpmogajlnkihaaDoor.En
open Go Go.RowKit
set_option linter.unusedVariables false
set_option maxHeartbeats 2000000 in
set_option maxRecDepth 100000 in
theorem bs_some (b g cap : Nat) (p : Value) (cur : Array Value) (l : List UInt8) (w : World) (hbk : w.heap[b]? = some (.cells #[p, .slice (some ⟨g, 0, none⟩) l.length cap] 71 (0, 0))) (hg : w.heap[g]? = some (.cells cur 5 (0, 0)))
    (h0 : l ≠ []) (hnc : l.length ≤ cap) (hcm : cap ≤ maxLen) (hcs : cur.size = cap) (hcell : ∀ (j : Nat) x, l[j]? = some x → cur[j]? = some (.int .u8 (x.toNat : Int))) :
    Calls Tryd.prog 43 #[.pointer (some ⟨b, 0, none⟩)] w fun e w' => e = .returned (.string ⟨l.toArray⟩) ∧ w' = w.drew.freeze ⟨g, 0, none⟩ l.length := by
  have hl0 : l.length ≠ 0 := by simpa using h0
  have c1 : w.drew.cell? ⟨b, 1, none⟩ = some (.slice (some ⟨g, 0, none⟩) l.length cap) := by
    have : w.drew.heap[b]? = some (.cells #[p, .slice (some ⟨g, 0, none⟩) l.length cap] 71 (0, 0)) := hbk
    rw [Lib.cell_of_heap this]; rfl
  have hSD : (Builtin.unsafeSliceData_ #[29] 95 #[.slice (some ⟨g, 0, none⟩) l.length cap]).run Tryd.prog w.drew = .ok (.pointer (some ⟨g, 0, none⟩)) w.drew :=
    Lib.run_unsafeSliceData_row _ _ _ _ _ _ (by omega)
  have hUS : (Builtin.unsafeString_ #[95, 3] 9 #[.pointer (some ⟨g, 0, none⟩), .int .i64 l.length]).run Tryd.prog w.drew = .ok (.string ⟨l.toArray⟩) (w.drew.freeze ⟨g, 0, none⟩ l.length) := by
    refine Lib.run_unsafeString_row w.drew 95 3 9 5 Tryd.underlying95 (by kernel_rfl) g cur.size (by have hg' : w.drew.heap[g]? = some (.cells cur 5 (0, 0)) := hg; simp [World.shape?, hg']) l h0 (by omega) (by unfold maxLen at hcm; omega) ?_
    intro j x hx
    have hg' : w.drew.heap[g]? = some (.cells cur 5 (0, 0)) := hg
    have := hcell j x hx
    have e : (⟨g, 0, none⟩ : Addr).add j = ⟨g, j, none⟩ := by
      unfold Addr.add
      simp only [Nat.zero_add]
      split
      · rename_i h; subst h; rfl
      · rfl
    rw [e, Lib.cell_of_heap hg']
    exact this
  have mixed : Tryd.prog.follows .mixedOrders = true := by kernel_rfl
  go_enter Tryd.func43, Tryd.ntmps43
  go_wp2
  go_region_o
  all_goals (go_wp2; go_ret; exact ⟨rfl, rfl⟩)
set_option maxHeartbeats 2000000 in
set_option maxRecDepth 100000 in
theorem bs_nil (b : Nat) (p : Value) (w : World) (hbk : w.heap[b]? = some (.cells #[p, .slice none 0 0] 71 (0, 0))) :
    Calls Tryd.prog 43 #[.pointer (some ⟨b, 0, none⟩)] w fun e w' => e = .returned (.string ⟨#[]⟩) ∧ w' = w.drew := by
  have hUS : ∀ (W : World) (q : Option Addr), (Builtin.unsafeString_ #[95, 3] 9 #[.pointer q, .int .i64 0]).run Tryd.prog W = .ok (.string .empty) W := fun W q => Lib.run_unsafeString_none W _ _ _ q
  have c1 : w.drew.cell? ⟨b, 1, none⟩ = some (.slice none 0 0) := by
    have : w.drew.heap[b]? = some (.cells #[p, .slice none 0 0] 71 (0, 0)) := hbk
    rw [Lib.cell_of_heap this]; rfl
  have hSD : (Builtin.unsafeSliceData_ #[29] 95 #[.slice none 0 0]).run Tryd.prog w.drew = .ok (.pointer none) w.drew := rfl
  have mixed : Tryd.prog.follows .mixedOrders = true := by kernel_rfl
  go_enter Tryd.func43, Tryd.ntmps43
  go_wp2
  go_region_o
  all_goals (go_wp2; go_ret; exact ⟨rfl, rfl⟩)
set_option maxHeartbeats 2000000 in
set_option maxRecDepth 100000 in
theorem bs_empty (b g cap : Nat) (p : Value) (w : World) (hbk : w.heap[b]? = some (.cells #[p, .slice (some ⟨g, 0, none⟩) 0 cap] 71 (0, 0))) (h0 : cap ≠ 0) :
    Calls Tryd.prog 43 #[.pointer (some ⟨b, 0, none⟩)] w fun e w' => e = .returned (.string ⟨#[]⟩) ∧ w' = w.drew := by
  have hUS : ∀ (W : World) (q : Option Addr), (Builtin.unsafeString_ #[95, 3] 9 #[.pointer q, .int .i64 0]).run Tryd.prog W = .ok (.string .empty) W := fun W q => Lib.run_unsafeString_none W _ _ _ q
  have c1 : w.drew.cell? ⟨b, 1, none⟩ = some (.slice (some ⟨g, 0, none⟩) 0 cap) := by
    have : w.drew.heap[b]? = some (.cells #[p, .slice (some ⟨g, 0, none⟩) 0 cap] 71 (0, 0)) := hbk
    rw [Lib.cell_of_heap this]; rfl
  have hSD : (Builtin.unsafeSliceData_ #[29] 95 #[.slice (some ⟨g, 0, none⟩) 0 cap]).run Tryd.prog w.drew = .ok (.pointer (some ⟨g, 0, none⟩)) w.drew :=
    Lib.run_unsafeSliceData_row _ _ _ _ _ _ h0
  have mixed : Tryd.prog.follows .mixedOrders = true := by kernel_rfl
  go_enter Tryd.func43, Tryd.ntmps43
  go_wp2
  go_region_o
  all_goals (go_wp2; go_ret; exact ⟨rfl, rfl⟩)
set_option maxHeartbeats 2000000 in
set_option maxRecDepth 100000 in
theorem bs_noroom (b g : Nat) (p : Value) (cur : Array Value) (w : World) (hbk : w.heap[b]? = some (.cells #[p, .slice (some ⟨g, 0, none⟩) 0 0] 71 (0, 0))) (hg : w.heap[g]? = some (.cells cur 5 (0, 0))) :
    Calls Tryd.prog 43 #[.pointer (some ⟨b, 0, none⟩)] w fun e w' => e = .returned (.string ⟨#[]⟩) ∧ (∃ o, w' = w.drew.alloc o ∨ w' = (w.alloc o).drew) := by
  have hUS : ∀ (W : World) (q : Option Addr), (Builtin.unsafeString_ #[95, 3] 9 #[.pointer q, .int .i64 0]).run Tryd.prog W = .ok (.string .empty) W := fun W q => Lib.run_unsafeString_none W _ _ _ q
  have hlt : b < w.heap.size := by
    rcases Nat.lt_or_ge b w.heap.size with h' | h'
    · exact h'
    · simp [Array.getElem?_eq_none h'] at hbk
  have c1 : w.drew.cell? ⟨b, 1, none⟩ = some (.slice (some ⟨g, 0, none⟩) 0 0) := by
    have : w.drew.heap[b]? = some (.cells #[p, .slice (some ⟨g, 0, none⟩) 0 0] 71 (0, 0)) := hbk
    rw [Lib.cell_of_heap this]; rfl
  have hSD : (Builtin.unsafeSliceData_ #[29] 95 #[.slice (some ⟨g, 0, none⟩) 0 0]).run Tryd.prog w.drew = .ok (.pointer (some ⟨w.drew.heap.size, 0, none⟩)) (w.drew.alloc (.view ⟨g, 0, none⟩ 5)) :=
    Lib.run_unsafeSliceData_zero w.drew _ _ 5 Tryd.underlying95 ⟨g, 0, none⟩ 0 (5, cur.size) (by have hg' : w.drew.heap[g]? = some (.cells cur 5 (0, 0)) := hg; simp [World.shape?, hg'])
  have c2 : (w.drew.alloc (.view ⟨g, 0, none⟩ 5)).cell? ⟨b, 1, none⟩ = some (.slice (some ⟨g, 0, none⟩) 0 0) := by
    have : (w.drew.alloc (.view ⟨g, 0, none⟩ 5)).heap[b]? = _ := (Lib.alloc_old w.drew _ b hlt).trans hbk
    rw [Lib.cell_of_heap this]; rfl
  have c3 : (w.alloc (.view ⟨g, 0, none⟩ 5)).drew.cell? ⟨b, 1, none⟩ = some (.slice (some ⟨g, 0, none⟩) 0 0) := c2
  have c0 : w.cell? ⟨b, 1, none⟩ = some (.slice (some ⟨g, 0, none⟩) 0 0) := c1
  have mixed : Tryd.prog.follows .mixedOrders = true := by kernel_rfl
  go_enter Tryd.func43, Tryd.ntmps43
  go_wp2
  go_region_o
  all_goals (go_wp2; go_ret; exact ⟨rfl, _, .inl rfl⟩)
theorem calm_freeze {w : World} {x n : Nat} {cur : Array Value} {t : TypeId} (hx : w.heap[x]? = some (.cells cur t (0, 0))) : Calm x w (w.drew.freeze ⟨x, 0, none⟩ n) := by
  by_cases hn : n = 0
  · unfold World.freeze
    rw [if_pos hn]
    exact ⟨rfl, rfl, rfl, rfl, fun _ _ => rfl, fun _ => rfl⟩
  · have h0 : (w.drew.freeze ⟨x, 0, none⟩ n).heap = w.heap.modify x fun | .cells c elem (lo, hi) => .cells c elem (if lo == hi then (0, 0 + n) else (min lo 0, max hi (0 + n))) | o => o := by
      unfold World.freeze
      rw [if_neg hn]
      rfl
    have h1 : (w.drew.freeze ⟨x, 0, none⟩ n).heap[x]? = some (.cells cur t (0, 0 + n)) := by
      rw [h0, Array.getElem?_modify, if_pos rfl, hx]
      rfl
    have h2 : (w.drew.freeze ⟨x, 0, none⟩ n).os = w.os ∧ (w.drew.freeze ⟨x, 0, none⟩ n).tape = w.tape ∧ (w.drew.freeze ⟨x, 0, none⟩ n).output = w.output := by
      unfold World.freeze
      rw [if_neg hn]
      exact ⟨rfl, rfl, rfl⟩
    refine ⟨h2.1, h2.2.1, h2.2.2, by rw [h0]; exact Array.size_modify, fun b hb => ?_, fun o => ?_⟩
    · rw [h0, Array.getElem?_modify, if_neg (Ne.symm hb)]
    · rw [cell_of_row w x o cur _ _ hx, cell_of_row _ x o cur _ _ h1]
noncomputable def s_bString (N : Nat) (l : List UInt8) : Option (List UInt8) := some l
theorem size_u8 : sizes T 5 = 1 := by kernel_rfl
theorem p_bString (N : Nat) (l r : List UInt8) (h : s_bString N l = some r) : ViewRet Tryd.prog T 43 [.ptr 1 0 0] [⟨71, [.bld, .v (.bytes l) (.own (.slot 0) 5)]⟩] [.v (.str r) .no] [⟨71, [.bld, .v (.bytes l) .no]⟩] := by
  injection h with h
  subst h
  intro ps ds m dst hone hget hlen har E g w us hh hus
  match ps, hlen with
  | [(k, s)], _ =>
  match ds, har with
  | [y], ⟨h1, _⟩ =>
  generalize hy : D.ptr 1 0 0 = y₁ at h1
  cases h1 <;> cases hy
  rename_i k0 s0 hq
  obtain ⟨k', rfl, _, hk'⟩ := hq
  simp at hk'
  obtain ⟨rfl, rfl⟩ := hk'
  obtain ⟨hl, hr⟩ := hus
  match us, hl with
  | [u], _ =>
  have hu := hr 0 _ rfl
  simp only [List.getD_cons_zero] at hu
  cases hu with
  | ptr k' s' o a1 a2 =>
  have eJ : (inner E m).d - (k + 1) = E.d - k := by show E.d + 1 - (k + 1) = _; omega
  rw [eJ]
  obtain ⟨B, hB, hB'⟩ := hget 0 (k, s) rfl
  simp at hB'
  subst hB'
  simp only at hB
  have hbr := hh.mem k s _ hB
  obtain ⟨cs, b1, b2, b3⟩ := hbr.heap
  have c1 := b3 1 _ rfl
  have hcs : ∃ p v, cs = #[p, v] := by
    obtain ⟨l0⟩ := cs
    match l0, b2 with
    | [p, v], _ => exact ⟨p, v, rfl⟩
  obtain ⟨p, v, rfl⟩ := hcs
  have hrep : RepD E g w [] (.v (.bytes l) (.own (.cell k s 1) 5)) v := c1.2.2.2
  have hw := weak_here hh hB
  have em : setAll [(k, s)] [⟨71, [.bld, .v (.bytes l) .no]⟩] m = m.setBox k s ⟨71, [D.bld, .v (.bytes l) (.own (.slot 0) 5)].map weakD⟩ := rfl
  rw [em]
  have quiet : ∀ w', Grows w w' → ∃ g', KeepsS E g w E g' w' ∧ Here T E g' w' (m.setBox k s ⟨71, [D.bld, .v (.bytes l) (.own (.slot 0) 5)].map weakD⟩) ∧ Tr E.d g w g' w' := by
    intro w' hg
    refine ⟨g.at_ w.heap.size .imm, ?_, here_grow hg (Nat.le_refl _) _ hw, tr_grow hg (Nat.le_refl _) _ _⟩
    have hk := keeps_grow (E := E) (g := g) (dead := []) hg (Nat.le_refl _) .imm
    exact ⟨hk.later, hk.d, hk.dom, hk.J, fun s e v ho => hk.own (.slot s) e v trivial (by simp) ho⟩
  have fin : ∀ w', (∃ g', KeepsS E g w E g' w' ∧ Here T E g' w' (m.setBox k s ⟨71, [D.bld, .v (.bytes l) (.own (.slot 0) 5)].map weakD⟩) ∧ Tr E.d g w g' w') → l.length ≤ 9223372036854775807 →
      ∃ us' g' E', Ending.returned (.string ⟨l.toArray⟩) = .returned (retV us') ∧ KeepsS E g w E' g' w' ∧ Here T E' g' w' (m.setBox k s ⟨71, [D.bld, .v (.bytes l) (.own (.slot 0) 5)].map weakD⟩) ∧ RepDs E' g' w' [] [.v (.str l) .no] us' ∧ Tr E.d g w g' w' := by
    rintro w' ⟨g', d1, d2, d3⟩ h63
    refine ⟨[.string ⟨l.toArray⟩], g', E, rfl, d1, d2, ⟨rfl, fun i y hy => ?_⟩, d3⟩
    rcases i with _ | i
    · simp at hy; subst hy; exact .v _ _ _ (.str l h63) trivial
    · simp at hy
  cases hrep with
  | v x a v hv ha =>
  cases hv with
  | bytes xs A n c hn hc hm hcell =>
  have h63 : l.length ≤ 9223372036854775807 := by rw [hn]; exact Nat.le_trans hc hm
  rcases ha with ha | ⟨_, ha⟩
  · cases ha
  rcases ha with h0 | ⟨x, n', cap, cur, h1, h2, h3, h4, h5, h6⟩
  · injection h0 with e1 e2 e3
    subst e1 e2 e3
    have hl0 : l = [] := List.length_eq_zero_iff.1 hn
    subst hl0
    refine (bs_nil _ p w b1).mono ?_
    rintro e w' ⟨rfl, rfl⟩
    exact fin _ (quiet _ (Grows.drew w)) h63
  · injection h1 with e1 e2 e3
    subst e1 e2 e3
    rw [hh.sz, size_u8, Nat.mul_one] at h2 h6
    by_cases hn0 : l = []
    · subst hn0
      simp at hn
      subst hn
      by_cases hcap : c = 0
      · subst hcap
        refine (bs_noroom _ x p cur w b1 h3).mono ?_
        rintro e w' ⟨rfl, o, hw' | hw'⟩
        · subst hw'; exact fin _ (quiet _ ((Grows.drew w).trans (Grows.alloc _ o))) h63
        · subst hw'; exact fin _ (quiet _ ((Grows.alloc w o).trans (Grows.drew _))) h63
      · refine (bs_empty _ x c p w b1 hcap).mono ?_
        rintro e w' ⟨rfl, rfl⟩
        exact fin _ (quiet _ (Grows.drew w)) h63
    · subst hn
      refine (bs_some _ x c p cur l w b1 h3 hn0 hc hm h6 fun j y hy => ?_).mono ?_
      · obtain ⟨b', off, e1, _, e2⟩ := hcell j y hy
        injection e1 with e1
        injection e1 with e1 e3 _
        subst e1 e3
        rw [Nat.zero_add, cell_of_row w x j cur _ _ h3] at e2
        exact e2
      · rintro e w' ⟨rfl, rfl⟩
        have hno : ∀ b, (m.setBox k s ⟨71, [D.bld, .v (.bytes l) (.own (.slot 0) 5)].map weakD⟩).box? k s = some b → ∀ (i : Nat) c, b.cells[i]? = some c → c.noOwn = true := by
          intro b hb i c hc
          rw [box_set, if_pos ⟨rfl, rfl, box_lt _ _ _ _ hB⟩] at hb
          injection hb with hb
          subst hb
          rcases i with _ | _ | i
          · simp [weakD] at hc; subst hc; rfl
          · simp [weakD] at hc; subst hc; rfl
          · simp at hc
        obtain ⟨d1, d2, d3⟩ := disown_here (calm_freeze h3) h2 hbr.le hw hno
        exact fin _ ⟨_, d2, d1, d3 _⟩ h63
end Go.Proofs.YtjpmogajlnkihaaDoor.En

/- The hand-made entries of the engine, together. -/

/- Functions of the program in plain Lean, joined to the program by evaluation; printed by a program. -/
namespace Go.Proofs.YtjpmogajlnkihaaDoor.En
open Go Go.Proofs
set_option maxRecDepth 100000
set_option linter.unusedVariables false
noncomputable def e_copyCheck {R : Type} (s : List UInt8 → Option (Unit)) (dst : Nat) (ds : List D) (m : Mem) (K : List D → Mem → Option R) : Option R :=
  match ds with
  | [.ptr (kv0 + 1) sv0 0] => viewK [(kv0, sv0)] m fun Bs => (match Bs with
    | [⟨71, [.bld, .v (.bytes y0) (.own (.slot 0) 5)]⟩] => bnd1 (s y0) fun _ => putAllK [(kv0, sv0)] [⟨71, [.bld, .v (.bytes y0) (.own (.slot 0) 5)]⟩] m fun m' => K [] m'
    | _ => none)
  | _ => none
theorem go_copyCheck : Goes Tryd.prog 56 := goes_of Tryd.func56 (by kernel_rfl) (c := bodyOf Tryd.f56) (by kernel_rfl)
theorem eo_copyCheck (s : List UInt8 → Option (Unit)) (hs : ∀ (y0 : List UInt8) , s y0 = some () → ViewRet Tryd.prog T 56 [.ptr 1 0 0] [⟨71, [.bld, .v (.bytes y0) (.own (.slot 0) 5)]⟩] [] [⟨71, [.bld, .v (.bytes y0) (.own (.slot 0) 5)]⟩]) : MEntOK Tryd.prog T ⟨56, e_copyCheck s⟩ := by
  refine ⟨go_copyCheck, fun R dst ds m K r h => ?_⟩
  simp only [e_copyCheck] at h
  split at h
  · obtain ⟨Bs, a1, a2, a3, h⟩ := viewK_some h
    split at h
    · obtain ⟨_, h1, h2⟩ := bnd1_some h
      rw [putAllK_eq] at h2
      exact ⟨_, _, h2, hs _ h1 _ _ m dst a1 a2 a3 ⟨aren_ptr _ rfl, trivial⟩⟩
    · cases h
  · cases h
noncomputable def e_WriteString {R : Type} (s : List UInt8 → List UInt8 → Option (Int × List UInt8)) (dst : Nat) (ds : List D) (m : Mem) (K : List D → Mem → Option R) : Option R :=
  match ds with
  | [.ptr (kv0 + 1) sv0 0, .v (.str x0) .no] => viewK [(kv0, sv0)] m fun Bs => (match Bs with
    | [⟨71, [.bld, .v (.bytes y0) (.own (.slot 0) 5)]⟩] => bnd2 (s x0 y0) fun r0 z0 => putAllK [(kv0, sv0)] [⟨71, [.bld, .v (.bytes z0) (.own (.slot 0) 5)]⟩] m fun m' => K [.v (.int .i64 r0) .no, .v .nilI .no] m'
    | _ => none)
  | _ => none
noncomputable def r_WriteString {α : Type} (K : Int → List UInt8 → Option α) (rs : List D) (m : Mem) : Option α :=
  match rs, m with
  | [.v (.int .i64 r0) _, .v .nilI _], [_, [(0, ⟨71, [.bld, .v (.bytes z0) (.own (.slot 0) 5)]⟩)]] => K r0 z0
  | _, _ => none
noncomputable def C_WriteString {R : Type} (N : Nat) (x0 : List UInt8) (y0 : List UInt8) (K0 : Int → List UInt8 → Option R) : Option R := bnd1 (s_copyCheck N y0) fun x0_1 => br (decide ((y0.length + x0.length) * 1 ≤ 140737488355328)) (K0 (↑x0.length : Int) (y0 ++ x0)) none
noncomputable def s_WriteString (N : Nat) (x0 : List UInt8) (y0 : List UInt8) : Option (Int × List UInt8) := C_WriteString N x0 y0 (fun r0 z0 => some (r0, z0))
noncomputable def cx_WriteString (N : Nat) : Cx := { T := T, isPure := tabP [], pureK := fun g ds K => tabK [] g ds K, memK := fun g dst ds m K => tabMK [⟨56, e_copyCheck (s_copyCheck N)⟩] g dst ds m K, meth := tabM [], keep := fun _ => [], keepX := fun _ => [], loopT := fun _ _ _ _ => none, jumps := 9 }
theorem C_WriteString_ok {R : Type} (N : Nat) (x0 : List UInt8) (y0 : List UInt8) (K : Int → List UInt8 → Option R) : bodyK (cx_WriteString N) Tryd.f40 [.ptr 1 0 0, .v (.str x0) .no] [frOf 0 [⟨71, [.bld, .v (.bytes y0) (.own (.slot 0) 5)]⟩]] (r_WriteString K) = C_WriteString N x0 y0 (fun r0 z0 => K r0 z0) := by
  kernel_rfl
theorem go_WriteString : Goes Tryd.prog 40 := goes_of Tryd.func40 (by kernel_rfl) (c := bodyOf Tryd.f40) (by kernel_rfl)
theorem eo_WriteString (s : List UInt8 → List UInt8 → Option (Int × List UInt8)) (hs : ∀ (x0 : List UInt8) (y0 : List UInt8) (r0 : Int) (z0 : List UInt8), s x0 y0 = some (r0, z0) → ViewRet Tryd.prog T 40 [.ptr 1 0 0, .v (.str x0) .no] [⟨71, [.bld, .v (.bytes y0) (.own (.slot 0) 5)]⟩] [.v (.int .i64 r0) .no, .v .nilI .no] [⟨71, [.bld, .v (.bytes z0) (.own (.slot 0) 5)]⟩]) : MEntOK Tryd.prog T ⟨40, e_WriteString s⟩ := by
  refine ⟨go_WriteString, fun R dst ds m K r h => ?_⟩
  simp only [e_WriteString] at h
  split at h
  · obtain ⟨Bs, a1, a2, a3, h⟩ := viewK_some h
    split at h
    · obtain ⟨r0, z0, h1, h2⟩ := bnd2_some h
      rw [putAllK_eq] at h2
      exact ⟨_, _, h2, hs _ _ _ _ h1 _ _ m dst a1 a2 a3 ⟨aren_ptr _ rfl, aren_v _, trivial⟩⟩
    · cases h
  · cases h
theorem co_WriteString (N : Nat) : CxOK Tryd.prog (cx_WriteString N) :=
  cxOK_of2 (es := []) (me := [⟨56, e_copyCheck (s_copyCheck N)⟩]) (ms := []) T_ok trivial ⟨eo_copyCheck _ (p_copyCheck N), trivial⟩ trivial rfl (fun _ _ _ _ => rfl) (fun _ _ _ _ _ _ => rfl) rfl
theorem lo_WriteString (N : Nat) : LoopsOK (cx_WriteString N) Tryd.f40.ntmps (bodyOf Tryd.f40) :=
  loopsOK_of (k := 0) (by kernel_rfl) trivial
open Classical in
theorem p_WriteString (N : Nat) (x0 : List UInt8) (y0 : List UInt8) (r0 : Int) (z0 : List UInt8) (h : s_WriteString N x0 y0 = some (r0, z0)) : ViewRet Tryd.prog T 40 [.ptr 1 0 0, .v (.str x0) .no] [⟨71, [.bld, .v (.bytes y0) (.own (.slot 0) 5)]⟩] [.v (.int .i64 r0) .no, .v .nilI .no] [⟨71, [.bld, .v (.bytes z0) (.own (.slot 0) 5)]⟩] := by
  refine view_of (Bs := [⟨71, [.bld, .v (.bytes y0) (.own (.slot 0) 5)]⟩]) (Bs' := [⟨71, [.bld, .v (.bytes z0) (.own (.slot 0) 5)]⟩]) (cx := cx_WriteString N) (by kernel_rfl) (co_WriteString N) Tryd.func40 (by kernel_rfl) (by kernel_rfl) (lo_WriteString N) rfl rfl rfl rfl (rf := r_WriteString (fun r0' z'0 => some (r0', z'0))) (r := (r0, z0)) ?_ ?_
  · exact (C_WriteString_ok N x0 y0 _).trans h
  · intro rs' m' hx
    unfold r_WriteString at hx
    split at hx
    · cases hx; exact ⟨rfl, rfl, _, rfl⟩
    · cases hx
noncomputable def e_bString {R : Type} (s : List UInt8 → Option (List UInt8)) (dst : Nat) (ds : List D) (m : Mem) (K : List D → Mem → Option R) : Option R :=
  match ds with
  | [.ptr (kv0 + 1) sv0 0] => viewK [(kv0, sv0)] m fun Bs => (match Bs with
    | [⟨71, [.bld, .v (.bytes y0) (.own (.slot 0) 5)]⟩] => bnd1 (s y0) fun r0 => putAllK [(kv0, sv0)] [⟨71, [.bld, .v (.bytes y0) .no]⟩] m fun m' => K [.v (.str r0) .no] m'
    | _ => none)
  | _ => none
theorem go_bString : Goes Tryd.prog 43 := goes_of Tryd.func43 (by kernel_rfl) (c := bodyOf Tryd.f43) (by kernel_rfl)
theorem eo_bString (s : List UInt8 → Option (List UInt8)) (hs : ∀ (y0 : List UInt8) (r0 : List UInt8), s y0 = some r0 → ViewRet Tryd.prog T 43 [.ptr 1 0 0] [⟨71, [.bld, .v (.bytes y0) (.own (.slot 0) 5)]⟩] [.v (.str r0) .no] [⟨71, [.bld, .v (.bytes y0) .no]⟩]) : MEntOK Tryd.prog T ⟨43, e_bString s⟩ := by
  refine ⟨go_bString, fun R dst ds m K r h => ?_⟩
  simp only [e_bString] at h
  split at h
  · obtain ⟨Bs, a1, a2, a3, h⟩ := viewK_some h
    split at h
    · obtain ⟨r0, h1, h2⟩ := bnd1_some h
      rw [putAllK_eq] at h2
      exact ⟨_, _, h2, hs _ _ h1 _ _ m dst a1 a2 a3 ⟨aren_ptr _ rfl, trivial⟩⟩
    · cases h
  · cases h
noncomputable def e_Fields {R : Type} (s : List UInt8 → Option (List V)) (ds : List D) (K : List D → Option R) : Option R :=
  match ds with
  | [.v (.str x0) .no] => bnd1 (s x0) fun r0 => K [.v (.sl 9 r0) .no]
  | _ => none
theorem go_Fields : Goes Tryd.prog 55 := goes_of Tryd.func55 (by kernel_rfl) (c := bodyOf Tryd.f55) (by kernel_rfl)
theorem eo_Fields (s : List UInt8 → Option (List V)) (hs : ∀ (x0 : List UInt8) (r0 : List V), s x0 = some r0 → PureRet Tryd.prog T 55 [.v (.str x0) .no] [.v (.sl 9 r0) .no]) : EntOK Tryd.prog T ⟨55, e_Fields s⟩ := by
  refine ⟨go_Fields, fun R ds K r h => ?_, fun R ds K => ?_⟩
  · simp only [e_Fields] at h
    split at h
    · obtain ⟨r0, h1, h2⟩ := bnd1_some h
      exact ⟨_, h2, hs _ _ h1⟩
    · cases h
  · simp only [e_Fields]
    split
    · rw [bnd1_b]; rfl
    · rfl
noncomputable def e_Cut {R : Type} (s : List UInt8 → List UInt8 → Option (List UInt8 × List UInt8 × Bool)) (ds : List D) (K : List D → Option R) : Option R :=
  match ds with
  | [.v (.str x0) .no, .v (.str x1) .no] => bnd3 (s x0 x1) fun r0 r1 r2 => K [.v (.str r0) .no, .v (.str r1) .no, .v (.bool r2) .no]
  | _ => none
theorem go_Cut : Goes Tryd.prog 45 := goes_of Tryd.func45 (by kernel_rfl) (c := bodyOf Tryd.f45) (by kernel_rfl)
theorem eo_Cut (s : List UInt8 → List UInt8 → Option (List UInt8 × List UInt8 × Bool)) (hs : ∀ (x0 : List UInt8) (x1 : List UInt8) (r0 : List UInt8) (r1 : List UInt8) (r2 : Bool), s x0 x1 = some (r0, r1, r2) → PureRet Tryd.prog T 45 [.v (.str x0) .no, .v (.str x1) .no] [.v (.str r0) .no, .v (.str r1) .no, .v (.bool r2) .no]) : EntOK Tryd.prog T ⟨45, e_Cut s⟩ := by
  refine ⟨go_Cut, fun R ds K r h => ?_, fun R ds K => ?_⟩
  · simp only [e_Cut] at h
    split at h
    · obtain ⟨r0, r1, r2, h1, h2⟩ := bnd3_some h
      exact ⟨_, h2, hs _ _ _ _ _ h1⟩
    · cases h
  · simp only [e_Cut]
    split
    · rw [bnd3_b]; rfl
    · rfl
noncomputable def e_Split {R : Type} (s : List UInt8 → List UInt8 → Option (List V)) (ds : List D) (K : List D → Option R) : Option R :=
  match ds with
  | [.v (.str x0) .no, .v (.str x1) .no] => bnd1 (s x0 x1) fun r0 => K [.v (.sl 9 r0) .no]
  | _ => none
theorem go_Split : Goes Tryd.prog 62 := goes_of Tryd.func62 (by kernel_rfl) (c := bodyOf Tryd.f62) (by kernel_rfl)
theorem eo_Split (s : List UInt8 → List UInt8 → Option (List V)) (hs : ∀ (x0 : List UInt8) (x1 : List UInt8) (r0 : List V), s x0 x1 = some r0 → PureRet Tryd.prog T 62 [.v (.str x0) .no, .v (.str x1) .no] [.v (.sl 9 r0) .no]) : EntOK Tryd.prog T ⟨62, e_Split s⟩ := by
  refine ⟨go_Split, fun R ds K r h => ?_, fun R ds K => ?_⟩
  · simp only [e_Split] at h
    split at h
    · obtain ⟨r0, h1, h2⟩ := bnd1_some h
      exact ⟨_, h2, hs _ _ _ h1⟩
    · cases h
  · simp only [e_Split]
    split
    · rw [bnd1_b]; rfl
    · rfl
noncomputable def e_Itoa {R : Type} (s : Int → Option (List UInt8)) (ds : List D) (K : List D → Option R) : Option R :=
  match ds with
  | [.v (.int .i64 x0) .no] => bnd1 (s x0) fun r0 => K [.v (.str r0) .no]
  | _ => none
theorem go_Itoa : Goes Tryd.prog 58 := goes_of Tryd.func58 (by kernel_rfl) (c := bodyOf Tryd.f58) (by kernel_rfl)
theorem eo_Itoa (s : Int → Option (List UInt8)) (hs : ∀ (x0 : Int) (r0 : List UInt8), s x0 = some r0 → PureRet Tryd.prog T 58 [.v (.int .i64 x0) .no] [.v (.str r0) .no]) : EntOK Tryd.prog T ⟨58, e_Itoa s⟩ := by
  refine ⟨go_Itoa, fun R ds K r h => ?_, fun R ds K => ?_⟩
  · simp only [e_Itoa] at h
    split at h
    · obtain ⟨r0, h1, h2⟩ := bnd1_some h
      exact ⟨_, h2, hs _ _ h1⟩
    · cases h
  · simp only [e_Itoa]
    split
    · rw [bnd1_b]; rfl
    · rfl
noncomputable def e_IndexS {R : Type} (s : List V → List UInt8 → Option (Int)) (ds : List D) (K : List D → Option R) : Option R :=
  match ds with
  | [.v (.sl 9 x0) .no, .v (.str x1) .no] => bnd1 (s x0 x1) fun r0 => K [.v (.int .i64 r0) .no]
  | _ => none
noncomputable def r_IndexS (rs : List D) (_ : Mem) : Option (Int) :=
  match rs with
  | [.v (.int .i64 r0) _] => some (r0)
  | _ => none
noncomputable def F_IndexS_2 {R : Type} (N : Nat) (vs0 : List V) (l1 : List UInt8) (n2 : Int) (Lq : Int → Option R) (K0 : Int → Option R) (K1 : Option R) (n3 : Int) : Option R := br (decide (n3 < n2)) (br (decide (0 ≤ n3) && decide (n3 < (↑vs0.length : Int))) (at? vs0 n3.toNat fun x0 => x0.unStr fun l1_1 => br (decide (l1 = l1_1)) (K0 n3) (Lq (IntKind.i64.wrap (n3 + 1)))) none) K1
noncomputable def S_IndexS_2 {R : Type} (N : Nat) (vs0 : List V) (l1 : List UInt8) (n2 : Int) : Nat → Int → (Int → Option R) → (Option R) → Option R | 0, _, _, _ => none | t + 1, n3, K0, K1 => F_IndexS_2 N vs0 l1 n2 (fun n3 => S_IndexS_2 N vs0 l1 n2 t n3 K0 K1) K0 K1 n3
noncomputable def l_IndexS_2 {R : Type} (N : Nat) (ds : List D) (m : Mem) (K : Ex → List D → Mem → Option R) : Option R :=
  match ds, m with
  | [(.v (.sl 9 vs0) .no), (.v (.str l1) .no), (.v (.int .i64 n2) .no), (.v (.int .i64 n3) .no)], [[]] => S_IndexS_2 N vs0 l1 n2 N n3 (fun a0 => K .ret [(.v (.int .i64 a0) .no)] [[]]) (K (.exit 0) [.any] [[]])
  | _, _ => none
noncomputable def s_IndexS (N : Nat) (x0 : List V) (x1 : List UInt8) : Option (Int) := S_IndexS_2 N x0 x1 (↑x0.length : Int) N 0 (fun n0 => some n0) (some (-1))
noncomputable def cx_IndexS (N : Nat) : Cx := { T := T, isPure := tabP [], pureK := fun g ds K => tabK [] g ds K, memK := fun g dst ds m K => tabMK [] g dst ds m K, meth := tabM [], keep := fun r => match r with | 2 => [0, 1, 7, 8] | _ => [], keepX := fun r => match r with | 2 => [4] | _ => [], loopT := fun r ds m K => match r with | 2 => l_IndexS_2 N ds m K | _ => none, jumps := 9 }
theorem F_IndexS_2_ok {R : Type} (N : Nat) (vs0 : List V) (l1 : List UInt8) (n2 : Int) (n3 : Int) (L : List D → Mem → Option R) (K : Ex → List D → Mem → Option R) :
    roundK (fun st K => codeK (cx_IndexS N) (loopN Tryd.f63 0) st K) 19 [0, 1, 7, 8] [4] L [(.v (.sl 9 vs0) .no), (.v (.str l1) .no), (.v (.int .i64 n2) .no), (.v (.int .i64 n3) .no)] [[]] K = F_IndexS_2 N vs0 l1 n2 (fun n3 => L [(.v (.sl 9 vs0) .no), (.v (.str l1) .no), (.v (.int .i64 n2) .no), (.v (.int .i64 n3) .no)] [[]]) (fun a0 => K .ret [(.v (.int .i64 a0) .no)] [[]]) (K (.exit 0) [.any] [[]]) n3 := by
  kernel_rfl
theorem S_IndexS_2_ok {R : Type} (N : Nat) (vs0 : List V) (l1 : List UInt8) (n2 : Int) (K : Ex → List D → Mem → Option R) : ∀ (t : Nat) (n3 : Int),
    loopK (fun st K => codeK (cx_IndexS N) (loopN Tryd.f63 0) st K) 19 [0, 1, 7, 8] [4] t [(.v (.sl 9 vs0) .no), (.v (.str l1) .no), (.v (.int .i64 n2) .no), (.v (.int .i64 n3) .no)] [[]] K = S_IndexS_2 N vs0 l1 n2 t n3 (fun a0 => K .ret [(.v (.int .i64 a0) .no)] [[]]) (K (.exit 0) [.any] [[]])
  | 0, n3 => rfl
  | t + 1, n3 => (F_IndexS_2_ok N vs0 l1 n2 n3 _ K).trans (congrArg (fun L => F_IndexS_2 N vs0 l1 n2 L (fun a0 => K .ret [(.v (.int .i64 a0) .no)] [[]]) (K (.exit 0) [.any] [[]]) n3) (funext fun n3 => S_IndexS_2_ok N vs0 l1 n2 K t n3))
theorem s_IndexS_ok (N : Nat) (x0 : List V) (x1 : List UInt8) : bodyK (cx_IndexS N) Tryd.f63 [.v (.sl 9 x0) .no, .v (.str x1) .no] [] r_IndexS = s_IndexS N x0 x1 := by
  kernel_rfl
theorem go_IndexS : Goes Tryd.prog 63 := goes_of Tryd.func63 (by kernel_rfl) (c := bodyOf Tryd.f63) (by kernel_rfl)
theorem eo_IndexS (s : List V → List UInt8 → Option (Int)) (hs : ∀ (x0 : List V) (x1 : List UInt8) (r0 : Int), s x0 x1 = some r0 → PureRet Tryd.prog T 63 [.v (.sl 9 x0) .no, .v (.str x1) .no] [.v (.int .i64 r0) .no]) : EntOK Tryd.prog T ⟨63, e_IndexS s⟩ := by
  refine ⟨go_IndexS, fun R ds K r h => ?_, fun R ds K => ?_⟩
  · simp only [e_IndexS] at h
    split at h
    · obtain ⟨r0, h1, h2⟩ := bnd1_some h
      exact ⟨_, h2, hs _ _ _ h1⟩
    · cases h
  · simp only [e_IndexS]
    split
    · rw [bnd1_b]; rfl
    · rfl
theorem co_IndexS (N : Nat) : CxOK Tryd.prog (cx_IndexS N) :=
  cxOK_of2 (es := []) (me := []) (ms := []) T_ok trivial trivial trivial rfl (fun _ _ _ _ => rfl) (fun _ _ _ _ _ _ => rfl) rfl
theorem lk_IndexS_2 (N : Nat) : LoopOK (cx_IndexS N) 19 (loopN Tryd.f63 0) := by
  refine loopOK_of (rid := 2) (by kernel_rfl) rfl rfl fun R ds m K r h => ?_
  have h : l_IndexS_2 N ds m K = some r := h
  unfold l_IndexS_2 at h
  split at h
  · exact ⟨N, Eq.trans (S_IndexS_2_ok ..) h⟩
  · cases h
theorem lo_IndexS (N : Nat) : LoopsOK (cx_IndexS N) Tryd.f63.ntmps (bodyOf Tryd.f63) :=
  loopsOK_of (k := 1) (by kernel_rfl) ⟨trivial, lk_IndexS_2 N⟩
theorem p_IndexS (N : Nat) (x0 : List V) (x1 : List UInt8) (r0 : Int) (h : s_IndexS N x0 x1 = some r0) : PureRet Tryd.prog T 63 [.v (.sl 9 x0) .no, .v (.str x1) .no] [.v (.int .i64 r0) .no] :=
  pure_of (cx := cx_IndexS N) (by kernel_rfl) (co_IndexS N) Tryd.func63 (by kernel_rfl) (by kernel_rfl) (lo_IndexS N) rfl rfl rfl (rf := r_IndexS) ((s_IndexS_ok N x0 x1).trans h) (fun rs' m h => by
    unfold r_IndexS at h
    split at h
    · cases h; exact ⟨rfl, rfl⟩
    · cases h)
noncomputable def e_formOf {R : Type} (s : Int → Option (Int × Int × Int)) (ds : List D) (K : List D → Option R) : Option R :=
  match ds with
  | [.v (.int .i64 x0) .no] => bnd3 (s x0) fun r0 r1 r2 => K [.agg [.v (.int .i64 r0) .no, .v (.int .i64 r1) .no, .v (.int .i64 r2) .no]]
  | _ => none
noncomputable def r_formOf (rs : List D) (_ : Mem) : Option (Int × Int × Int) :=
  match rs with
  | [.agg [.v (.int .i64 r0) _, .v (.int .i64 r1) _, .v (.int .i64 r2) _]] => some (r0, r1, r2)
  | _ => none
noncomputable def s_formOf (N : Nat) (x0 : Int) : Option (Int × Int × Int) := br (decide (x0 = 1)) (some (1, 0, 0)) (br (decide (x0 = 3)) (some (2, 0, 0)) (br (decide (x0 = 4)) (some (2, 0, 0)) (br (decide (x0 = 5)) (some (2, 3, 0)) (br (decide (21 ≤ x0)) (br (decide (x0 ≤ 32)) (some (4, 0, 0)) (br (decide (x0 = 33)) (some (5, 6, 0)) (br (decide (x0 = 51)) (some (5, 6, 0)) (br (decide (x0 = 52)) (some (5, 6, 0)) (br (decide (x0 = 34)) (some (7, 0, 0)) (br (decide (x0 = 42)) (some (5, 6, 8)) (br (decide (x0 = 43)) (some (5, 6, 8)) (br (decide (x0 = 44)) (some (9, 0, 0)) (br (decide (x0 = 45)) (some (9, 0, 0)) (br (decide (x0 = 46)) (some (10, 11, 0)) (br (decide (x0 = 47)) (some (5, 6, 12)) (br (decide (x0 = 48)) (some (5, 6, 12)) (br (decide (x0 = 53)) (some (13, 0, 0)) (some (0, 0, 0))))))))))))))) (br (decide (x0 = 33)) (some (5, 6, 0)) (br (decide (x0 = 51)) (some (5, 6, 0)) (br (decide (x0 = 52)) (some (5, 6, 0)) (br (decide (x0 = 34)) (some (7, 0, 0)) (br (decide (x0 = 42)) (some (5, 6, 8)) (br (decide (x0 = 43)) (some (5, 6, 8)) (br (decide (x0 = 44)) (some (9, 0, 0)) (br (decide (x0 = 45)) (some (9, 0, 0)) (br (decide (x0 = 46)) (some (10, 11, 0)) (br (decide (x0 = 47)) (some (5, 6, 12)) (br (decide (x0 = 48)) (some (5, 6, 12)) (br (decide (x0 = 53)) (some (13, 0, 0)) (some (0, 0, 0))))))))))))))))))
noncomputable def cx_formOf (N : Nat) : Cx := { T := T, isPure := tabP [], pureK := fun g ds K => tabK [] g ds K, memK := fun g dst ds m K => tabMK [] g dst ds m K, meth := tabM [], keep := fun _ => [], keepX := fun _ => [], loopT := fun _ _ _ _ => none, jumps := 9 }
theorem s_formOf_ok (N : Nat) (x0 : Int) : bodyK (cx_formOf N) Tryd.f33 [.v (.int .i64 x0) .no] [] r_formOf = s_formOf N x0 := by
  kernel_rfl
theorem go_formOf : Goes Tryd.prog 33 := goes_of Tryd.func33 (by kernel_rfl) (c := bodyOf Tryd.f33) (by kernel_rfl)
theorem eo_formOf (s : Int → Option (Int × Int × Int)) (hs : ∀ (x0 : Int) (r0 : Int) (r1 : Int) (r2 : Int), s x0 = some (r0, r1, r2) → PureRet Tryd.prog T 33 [.v (.int .i64 x0) .no] [.agg [.v (.int .i64 r0) .no, .v (.int .i64 r1) .no, .v (.int .i64 r2) .no]]) : EntOK Tryd.prog T ⟨33, e_formOf s⟩ := by
  refine ⟨go_formOf, fun R ds K r h => ?_, fun R ds K => ?_⟩
  · simp only [e_formOf] at h
    split at h
    · obtain ⟨r0, r1, r2, h1, h2⟩ := bnd3_some h
      exact ⟨_, h2, hs _ _ _ _ h1⟩
    · cases h
  · simp only [e_formOf]
    split
    · rw [bnd3_b]; rfl
    · rfl
theorem co_formOf (N : Nat) : CxOK Tryd.prog (cx_formOf N) :=
  cxOK_of2 (es := []) (me := []) (ms := []) T_ok trivial trivial trivial rfl (fun _ _ _ _ => rfl) (fun _ _ _ _ _ _ => rfl) rfl
theorem lo_formOf (N : Nat) : LoopsOK (cx_formOf N) Tryd.f33.ntmps (bodyOf Tryd.f33) :=
  loopsOK_of (k := 0) (by kernel_rfl) trivial
theorem p_formOf (N : Nat) (x0 : Int) (r0 : Int) (r1 : Int) (r2 : Int) (h : s_formOf N x0 = some (r0, r1, r2)) : PureRet Tryd.prog T 33 [.v (.int .i64 x0) .no] [.agg [.v (.int .i64 r0) .no, .v (.int .i64 r1) .no, .v (.int .i64 r2) .no]] :=
  pure_of (cx := cx_formOf N) (by kernel_rfl) (co_formOf N) Tryd.func33 (by kernel_rfl) (by kernel_rfl) (lo_formOf N) rfl rfl rfl (rf := r_formOf) ((s_formOf_ok N x0).trans h) (fun rs' m h => by
    unfold r_formOf at h
    split at h
    · cases h; exact ⟨rfl, rfl⟩
    · cases h)
noncomputable def e_limits {R : Type} (s : Int → Int → Option (Int × Int)) (ds : List D) (K : List D → Option R) : Option R :=
  match ds with
  | [.v (.int .i64 x0) .no, .v (.int .i64 x1) .no] => bnd2 (s x0 x1) fun r0 r1 => K [.v (.int .i64 r0) .no, .v (.int .i64 r1) .no]
  | _ => none
noncomputable def r_limits (rs : List D) (_ : Mem) : Option (Int × Int) :=
  match rs with
  | [.v (.int .i64 r0) _, .v (.int .i64 r1) _] => some (r0, r1)
  | _ => none
noncomputable def s_limits (N : Nat) (x0 : Int) (x1 : Int) : Option (Int × Int) := br (decide (x0 = 1)) (some (-2147483648, 2147483647)) (br (decide (x0 = 2)) (some (0, 15)) (br (decide (x0 = 3)) (some (-128, 127)) (br (decide (x0 = 4)) (some (0, 255)) (br (decide (x0 = 5)) (some (0, 4)) (br (decide (x0 = 10)) (some (0, 4)) (br (decide (x0 = 6)) (br (decide (x1 = 255)) (some (0, 1)) (some (0, 31))) (br (decide (x0 = 7)) (some (2, 4)) (br (decide (x0 = 8)) (some (0, 15)) (br (decide (x0 = 9)) (some (0, 255)) (br (decide (x0 = 11)) (some (0, 63)) (br (decide (x0 = 12)) (some (0, 15)) (br (decide (x0 = 13)) (some (0, 14)) (some (0, 0))))))))))))))
noncomputable def cx_limits (N : Nat) : Cx := { T := T, isPure := tabP [], pureK := fun g ds K => tabK [] g ds K, memK := fun g dst ds m K => tabMK [] g dst ds m K, meth := tabM [], keep := fun _ => [], keepX := fun _ => [], loopT := fun _ _ _ _ => none, jumps := 9 }
theorem s_limits_ok (N : Nat) (x0 : Int) (x1 : Int) : bodyK (cx_limits N) Tryd.f34 [.v (.int .i64 x0) .no, .v (.int .i64 x1) .no] [] r_limits = s_limits N x0 x1 := by
  kernel_rfl
theorem go_limits : Goes Tryd.prog 34 := goes_of Tryd.func34 (by kernel_rfl) (c := bodyOf Tryd.f34) (by kernel_rfl)
theorem eo_limits (s : Int → Int → Option (Int × Int)) (hs : ∀ (x0 : Int) (x1 : Int) (r0 : Int) (r1 : Int), s x0 x1 = some (r0, r1) → PureRet Tryd.prog T 34 [.v (.int .i64 x0) .no, .v (.int .i64 x1) .no] [.v (.int .i64 r0) .no, .v (.int .i64 r1) .no]) : EntOK Tryd.prog T ⟨34, e_limits s⟩ := by
  refine ⟨go_limits, fun R ds K r h => ?_, fun R ds K => ?_⟩
  · simp only [e_limits] at h
    split at h
    · obtain ⟨r0, r1, h1, h2⟩ := bnd2_some h
      exact ⟨_, h2, hs _ _ _ _ h1⟩
    · cases h
  · simp only [e_limits]
    split
    · rw [bnd2_b]; rfl
    · rfl
theorem co_limits (N : Nat) : CxOK Tryd.prog (cx_limits N) :=
  cxOK_of2 (es := []) (me := []) (ms := []) T_ok trivial trivial trivial rfl (fun _ _ _ _ => rfl) (fun _ _ _ _ _ _ => rfl) rfl
theorem lo_limits (N : Nat) : LoopsOK (cx_limits N) Tryd.f34.ntmps (bodyOf Tryd.f34) :=
  loopsOK_of (k := 0) (by kernel_rfl) trivial
theorem p_limits (N : Nat) (x0 : Int) (x1 : Int) (r0 : Int) (r1 : Int) (h : s_limits N x0 x1 = some (r0, r1)) : PureRet Tryd.prog T 34 [.v (.int .i64 x0) .no, .v (.int .i64 x1) .no] [.v (.int .i64 r0) .no, .v (.int .i64 r1) .no] :=
  pure_of (cx := cx_limits N) (by kernel_rfl) (co_limits N) Tryd.func34 (by kernel_rfl) (by kernel_rfl) (lo_limits N) rfl rfl rfl (rf := r_limits) ((s_limits_ok N x0 x1).trans h) (fun rs' m h => by
    unfold r_limits at h
    split at h
    · cases h; exact ⟨rfl, rfl⟩
    · cases h)
noncomputable def e_operands {R : Type} (s : Int → Int → Int → Int → Option (Int × Int × Int)) (ds : List D) (K : List D → Option R) : Option R :=
  match ds with
  | [.agg [.v (.int .i64 x0) .no, .v (.int .i64 x1) .no, .v (.int .i64 x2) .no, .v (.int .i64 x3) .no]] => bnd3 (s x0 x1 x2 x3) fun r0 r1 r2 => K [.agg [.v (.int .i64 r0) .no, .v (.int .i64 r1) .no, .v (.int .i64 r2) .no]]
  | _ => none
noncomputable def r_operands (rs : List D) (_ : Mem) : Option (Int × Int × Int) :=
  match rs with
  | [.agg [.v (.int .i64 r0) _, .v (.int .i64 r1) _, .v (.int .i64 r2) _]] => some (r0, r1, r2)
  | _ => none
noncomputable def s_operands (N : Nat) (x0 : Int) (x1 : Int) (x2 : Int) (x3 : Int) : Option (Int × Int × Int) := some (x1, x2, x3)
noncomputable def cx_operands (N : Nat) : Cx := { T := T, isPure := tabP [], pureK := fun g ds K => tabK [] g ds K, memK := fun g dst ds m K => tabMK [] g dst ds m K, meth := tabM [], keep := fun _ => [], keepX := fun _ => [], loopT := fun _ _ _ _ => none, jumps := 9 }
theorem s_operands_ok (N : Nat) (x0 : Int) (x1 : Int) (x2 : Int) (x3 : Int) : bodyK (cx_operands N) Tryd.f32 [.agg [.v (.int .i64 x0) .no, .v (.int .i64 x1) .no, .v (.int .i64 x2) .no, .v (.int .i64 x3) .no]] [] r_operands = s_operands N x0 x1 x2 x3 := by
  kernel_rfl
theorem go_operands : Goes Tryd.prog 32 := goes_of Tryd.func32 (by kernel_rfl) (c := bodyOf Tryd.f32) (by kernel_rfl)
theorem eo_operands (s : Int → Int → Int → Int → Option (Int × Int × Int)) (hs : ∀ (x0 : Int) (x1 : Int) (x2 : Int) (x3 : Int) (r0 : Int) (r1 : Int) (r2 : Int), s x0 x1 x2 x3 = some (r0, r1, r2) → PureRet Tryd.prog T 32 [.agg [.v (.int .i64 x0) .no, .v (.int .i64 x1) .no, .v (.int .i64 x2) .no, .v (.int .i64 x3) .no]] [.agg [.v (.int .i64 r0) .no, .v (.int .i64 r1) .no, .v (.int .i64 r2) .no]]) : EntOK Tryd.prog T ⟨32, e_operands s⟩ := by
  refine ⟨go_operands, fun R ds K r h => ?_, fun R ds K => ?_⟩
  · simp only [e_operands] at h
    split at h
    · obtain ⟨r0, r1, r2, h1, h2⟩ := bnd3_some h
      exact ⟨_, h2, hs _ _ _ _ _ _ _ h1⟩
    · cases h
  · simp only [e_operands]
    split
    · rw [bnd3_b]; rfl
    · rfl
theorem co_operands (N : Nat) : CxOK Tryd.prog (cx_operands N) :=
  cxOK_of2 (es := []) (me := []) (ms := []) T_ok trivial trivial trivial rfl (fun _ _ _ _ => rfl) (fun _ _ _ _ _ _ => rfl) rfl
theorem lo_operands (N : Nat) : LoopsOK (cx_operands N) Tryd.f32.ntmps (bodyOf Tryd.f32) :=
  loopsOK_of (k := 0) (by kernel_rfl) trivial
theorem p_operands (N : Nat) (x0 : Int) (x1 : Int) (x2 : Int) (x3 : Int) (r0 : Int) (r1 : Int) (r2 : Int) (h : s_operands N x0 x1 x2 x3 = some (r0, r1, r2)) : PureRet Tryd.prog T 32 [.agg [.v (.int .i64 x0) .no, .v (.int .i64 x1) .no, .v (.int .i64 x2) .no, .v (.int .i64 x3) .no]] [.agg [.v (.int .i64 r0) .no, .v (.int .i64 r1) .no, .v (.int .i64 r2) .no]] :=
  pure_of (cx := cx_operands N) (by kernel_rfl) (co_operands N) Tryd.func32 (by kernel_rfl) (by kernel_rfl) (lo_operands N) rfl rfl rfl (rf := r_operands) ((s_operands_ok N x0 x1 x2 x3).trans h) (fun rs' m h => by
    unfold r_operands at h
    split at h
    · cases h; exact ⟨rfl, rfl⟩
    · cases h)
noncomputable def e_names {R : Type} (s : Option (List V)) (ds : List D) (K : List D → Option R) : Option R :=
  match ds with
  | [] => bnd1 (s) fun r0 => K [.v (.sl 9 r0) .no]
  | _ => none
noncomputable def r_names (rs : List D) (_ : Mem) : Option (List V) :=
  match rs with
  | [.v (.sl 9 r0) _] => some (r0)
  | _ => none
noncomputable def s_names (N : Nat)  : Option (List V) := bnd1 (s_Fields N ([110, 111, 112, 32, 112, 117, 115, 104, 32, 110, 117, 108, 108, 32, 108, 111, 97, 100, 32, 115, 116, 111, 114, 101, 32, 105, 110, 99, 32, 112, 111, 112, 32, 100, 117, 112, 32, 115, 119, 97, 112, 32, 97, 100, 100, 32, 115, 117, 98, 32, 109, 117, 108, 32, 100, 105, 118, 32, 114, 101, 109, 32, 110, 101, 103, 32, 97, 110, 100, 32, 111, 114, 32, 120, 111, 114, 32, 115, 104, 108, 32, 115, 104, 114, 32, 117, 115, 104, 114, 32, 103, 111, 116, 111, 32, 105, 102, 122, 101, 114, 111, 32, 105, 102, 110, 111, 116, 32, 105, 102, 110, 101, 103, 32, 105, 102, 101, 113, 32, 105, 102, 110, 101, 32, 105, 102, 108, 116, 32, 105, 102, 103, 101, 32, 105, 102, 110, 117, 108, 108, 32, 105, 102, 115, 111, 109, 101, 32, 105, 102, 115, 97, 109, 101, 32, 105, 102, 111, 116, 104, 101, 114, 32, 110, 101, 119, 32, 97, 114, 114, 97, 121, 32, 108, 101, 110, 103, 116, 104, 32, 103, 101, 116, 98, 121, 116, 101, 32, 112, 117, 116, 98, 121, 116, 101, 32, 103, 101, 116, 105, 110, 116, 32, 112, 117, 116, 105, 110, 116, 32, 103, 101, 116, 114, 101, 102, 32, 112, 117, 116, 114, 101, 102, 32, 103, 101, 116, 102, 105, 101, 108, 100, 32, 112, 117, 116, 102, 105, 101, 108, 100, 32, 103, 101, 116, 115, 116, 97, 116, 105, 99, 32, 112, 117, 116, 115, 116, 97, 116, 105, 99, 32, 99, 97, 108, 108, 32, 118, 105, 114, 116, 117, 97, 108, 32, 105, 110, 118, 111, 107, 101, 32, 114, 101, 116, 117, 114, 110, 32, 116, 104, 114, 111, 119, 32, 99, 97, 115, 116, 32, 105, 115, 32, 110, 97, 116, 105, 118, 101] : List UInt8)) fun l0 => some l0
noncomputable def cx_names (N : Nat) : Cx := { T := T, isPure := tabP [⟨55, e_Fields (s_Fields N)⟩], pureK := fun g ds K => tabK [⟨55, e_Fields (s_Fields N)⟩] g ds K, memK := fun g dst ds m K => tabMK [] g dst ds m K, meth := tabM [], keep := fun _ => [], keepX := fun _ => [], loopT := fun _ _ _ _ => none, jumps := 9 }
theorem s_names_ok (N : Nat)  : bodyK (cx_names N) Tryd.f39 [] [] r_names = s_names N  := by
  kernel_rfl
theorem go_names : Goes Tryd.prog 39 := goes_of Tryd.func39 (by kernel_rfl) (c := bodyOf Tryd.f39) (by kernel_rfl)
theorem eo_names (s : Option (List V)) (hs : ∀  (r0 : List V), s  = some r0 → PureRet Tryd.prog T 39 [] [.v (.sl 9 r0) .no]) : EntOK Tryd.prog T ⟨39, e_names s⟩ := by
  refine ⟨go_names, fun R ds K r h => ?_, fun R ds K => ?_⟩
  · simp only [e_names] at h
    split at h
    · obtain ⟨r0, h1, h2⟩ := bnd1_some h
      exact ⟨_, h2, hs _ h1⟩
    · cases h
  · simp only [e_names]
    split
    · rw [bnd1_b]; rfl
    · rfl
theorem co_names (N : Nat) : CxOK Tryd.prog (cx_names N) :=
  cxOK_of2 (es := [⟨55, e_Fields (s_Fields N)⟩]) (me := []) (ms := []) T_ok ⟨eo_Fields _ (p_Fields N), trivial⟩ trivial trivial rfl (fun _ _ _ _ => rfl) (fun _ _ _ _ _ _ => rfl) rfl
theorem lo_names (N : Nat) : LoopsOK (cx_names N) Tryd.f39.ntmps (bodyOf Tryd.f39) :=
  loopsOK_of (k := 0) (by kernel_rfl) trivial
theorem p_names (N : Nat)  (r0 : List V) (h : s_names N  = some r0) : PureRet Tryd.prog T 39 [] [.v (.sl 9 r0) .no] :=
  pure_of (cx := cx_names N) (by kernel_rfl) (co_names N) Tryd.func39 (by kernel_rfl) (by kernel_rfl) (lo_names N) rfl rfl rfl (rf := r_names) ((s_names_ok N ).trans h) (fun rs' m h => by
    unfold r_names at h
    split at h
    · cases h; exact ⟨rfl, rfl⟩
    · cases h)
noncomputable def e_kinds {R : Type} (s : Option (List V)) (ds : List D) (K : List D → Option R) : Option R :=
  match ds with
  | [] => bnd1 (s) fun r0 => K [.v (.sl 9 r0) .no]
  | _ => none
noncomputable def r_kinds (rs : List D) (_ : Mem) : Option (List V) :=
  match rs with
  | [.v (.sl 9 r0) _] => some (r0)
  | _ => none
noncomputable def s_kinds (N : Nat)  : Option (List V) := some [V.str ([98, 121, 116, 101, 115] : List UInt8), V.str ([105, 110, 116, 115] : List UInt8), V.str ([114, 101, 102, 115] : List UInt8)]
noncomputable def cx_kinds (N : Nat) : Cx := { T := T, isPure := tabP [], pureK := fun g ds K => tabK [] g ds K, memK := fun g dst ds m K => tabMK [] g dst ds m K, meth := tabM [], keep := fun _ => [], keepX := fun _ => [], loopT := fun _ _ _ _ => none, jumps := 9 }
theorem s_kinds_ok (N : Nat)  : bodyK (cx_kinds N) Tryd.f57 [] [] r_kinds = s_kinds N  := by
  kernel_rfl
theorem go_kinds : Goes Tryd.prog 57 := goes_of Tryd.func57 (by kernel_rfl) (c := bodyOf Tryd.f57) (by kernel_rfl)
theorem eo_kinds (s : Option (List V)) (hs : ∀  (r0 : List V), s  = some r0 → PureRet Tryd.prog T 57 [] [.v (.sl 9 r0) .no]) : EntOK Tryd.prog T ⟨57, e_kinds s⟩ := by
  refine ⟨go_kinds, fun R ds K r h => ?_, fun R ds K => ?_⟩
  · simp only [e_kinds] at h
    split at h
    · obtain ⟨r0, h1, h2⟩ := bnd1_some h
      exact ⟨_, h2, hs _ h1⟩
    · cases h
  · simp only [e_kinds]
    split
    · rw [bnd1_b]; rfl
    · rfl
theorem co_kinds (N : Nat) : CxOK Tryd.prog (cx_kinds N) :=
  cxOK_of2 (es := []) (me := []) (ms := []) T_ok trivial trivial trivial rfl (fun _ _ _ _ => rfl) (fun _ _ _ _ _ _ => rfl) rfl
theorem lo_kinds (N : Nat) : LoopsOK (cx_kinds N) Tryd.f57.ntmps (bodyOf Tryd.f57) :=
  loopsOK_of (k := 0) (by kernel_rfl) trivial
theorem p_kinds (N : Nat)  (r0 : List V) (h : s_kinds N  = some r0) : PureRet Tryd.prog T 57 [] [.v (.sl 9 r0) .no] :=
  pure_of (cx := cx_kinds N) (by kernel_rfl) (co_kinds N) Tryd.func57 (by kernel_rfl) (by kernel_rfl) (lo_kinds N) rfl rfl rfl (rf := r_kinds) ((s_kinds_ok N ).trans h) (fun rs' m h => by
    unfold r_kinds at h
    split at h
    · cases h; exact ⟨rfl, rfl⟩
    · cases h)
noncomputable def e_joined {R : Type} (s : Int → Option (Bool)) (ds : List D) (K : List D → Option R) : Option R :=
  match ds with
  | [.v (.int .i64 x0) .no] => bnd1 (s x0) fun r0 => K [.v (.bool r0) .no]
  | _ => none
noncomputable def r_joined (rs : List D) (_ : Mem) : Option (Bool) :=
  match rs with
  | [.v (.bool r0) _] => some (r0)
  | _ => none
noncomputable def s_joined (N : Nat) (x0 : Int) : Option (Bool) := br (decide (x0 = 6)) (some true) (some (decide (x0 = 11)))
noncomputable def cx_joined (N : Nat) : Cx := { T := T, isPure := tabP [], pureK := fun g ds K => tabK [] g ds K, memK := fun g dst ds m K => tabMK [] g dst ds m K, meth := tabM [], keep := fun _ => [], keepX := fun _ => [], loopT := fun _ _ _ _ => none, jumps := 9 }
theorem s_joined_ok (N : Nat) (x0 : Int) : bodyK (cx_joined N) Tryd.f41 [.v (.int .i64 x0) .no] [] r_joined = s_joined N x0 := by
  kernel_rfl
theorem go_joined : Goes Tryd.prog 41 := goes_of Tryd.func41 (by kernel_rfl) (c := bodyOf Tryd.f41) (by kernel_rfl)
theorem eo_joined (s : Int → Option (Bool)) (hs : ∀ (x0 : Int) (r0 : Bool), s x0 = some r0 → PureRet Tryd.prog T 41 [.v (.int .i64 x0) .no] [.v (.bool r0) .no]) : EntOK Tryd.prog T ⟨41, e_joined s⟩ := by
  refine ⟨go_joined, fun R ds K r h => ?_, fun R ds K => ?_⟩
  · simp only [e_joined] at h
    split at h
    · obtain ⟨r0, h1, h2⟩ := bnd1_some h
      exact ⟨_, h2, hs _ _ h1⟩
    · cases h
  · simp only [e_joined]
    split
    · rw [bnd1_b]; rfl
    · rfl
theorem co_joined (N : Nat) : CxOK Tryd.prog (cx_joined N) :=
  cxOK_of2 (es := []) (me := []) (ms := []) T_ok trivial trivial trivial rfl (fun _ _ _ _ => rfl) (fun _ _ _ _ _ _ => rfl) rfl
theorem lo_joined (N : Nat) : LoopsOK (cx_joined N) Tryd.f41.ntmps (bodyOf Tryd.f41) :=
  loopsOK_of (k := 0) (by kernel_rfl) trivial
theorem p_joined (N : Nat) (x0 : Int) (r0 : Bool) (h : s_joined N x0 = some r0) : PureRet Tryd.prog T 41 [.v (.int .i64 x0) .no] [.v (.bool r0) .no] :=
  pure_of (cx := cx_joined N) (by kernel_rfl) (co_joined N) Tryd.func41 (by kernel_rfl) (by kernel_rfl) (lo_joined N) rfl rfl rfl (rf := r_joined) ((s_joined_ok N x0).trans h) (fun rs' m h => by
    unfold r_joined at h
    split at h
    · cases h; exact ⟨rfl, rfl⟩
    · cases h)
noncomputable def e_Compare {R : Type} (s : List UInt8 → List UInt8 → Option (Int)) (ds : List D) (K : List D → Option R) : Option R :=
  match ds with
  | [.v (.bytes x0) .no, .v (.bytes x1) .no] => bnd1 (s x0 x1) fun r0 => K [.v (.int .i64 r0) .no]
  | _ => none
noncomputable def r_Compare (rs : List D) (_ : Mem) : Option (Int) :=
  match rs with
  | [.v (.int .i64 r0) _] => some (r0)
  | _ => none
noncomputable def F_Compare_2 {R : Type} (N : Nat) (l0 : List UInt8) (l1 : List UInt8) (Lq : Int → Option R) (K0 : Int → Option R) (K1 : Option R) (n2 : Int) : Option R := br (decide (n2 < (↑l0.length : Int))) (br (decide (n2 < (↑l1.length : Int))) (br (decide (0 ≤ n2) && decide (n2 < (↑l0.length : Int))) (at? l0 n2.toNat fun u0 => br (decide (0 ≤ n2) && decide (n2 < (↑l1.length : Int))) (at? l1 n2.toNat fun u1 => br (decide ((↑u0.toNat : Int) < (↑u1.toNat : Int))) (K0 (-1)) (br (decide (0 ≤ n2) && decide (n2 < (↑l0.length : Int))) (at? l0 n2.toNat fun u2 => br (decide (0 ≤ n2) && decide (n2 < (↑l1.length : Int))) (at? l1 n2.toNat fun u3 => br (decide ((↑u3.toNat : Int) < (↑u2.toNat : Int))) (K0 1) (Lq (IntKind.i64.wrap (n2 + 1)))) none) none)) none) none) K1) K1
noncomputable def S_Compare_2 {R : Type} (N : Nat) (l0 : List UInt8) (l1 : List UInt8) : Nat → Int → (Int → Option R) → (Option R) → Option R | 0, _, _, _ => none | t + 1, n2, K0, K1 => F_Compare_2 N l0 l1 (fun n2 => S_Compare_2 N l0 l1 t n2 K0 K1) K0 K1 n2
noncomputable def l_Compare_2 {R : Type} (N : Nat) (ds : List D) (m : Mem) (K : Ex → List D → Mem → Option R) : Option R :=
  match ds, m with
  | [(.v (.bytes l0) .no), (.v (.bytes l1) .no), (.v (.int .i64 n2) .no)], [[]] => S_Compare_2 N l0 l1 N n2 (fun a2 => K .ret [(.v (.bytes l0) .no), (.v (.bytes l1) .no), (.v (.int .i64 a2) .no)] [[]]) (K (.exit 0) [(.v (.bytes l0) .no), (.v (.bytes l1) .no), .any] [[]])
  | _, _ => none
noncomputable def s_Compare (N : Nat) (x0 : List UInt8) (x1 : List UInt8) : Option (Int) := S_Compare_2 N x0 x1 N 0 (fun n0 => some n0) (br (decide ((↑x0.length : Int) < (↑x1.length : Int))) (some (-1)) (br (decide ((↑x1.length : Int) < (↑x0.length : Int))) (some 1) (some 0)))
noncomputable def cx_Compare (N : Nat) : Cx := { T := T, isPure := tabP [], pureK := fun g ds K => tabK [] g ds K, memK := fun g dst ds m K => tabMK [] g dst ds m K, meth := tabM [], keep := fun r => match r with | 2 => [0, 1, 5] | _ => [], keepX := fun r => match r with | 2 => [0, 1, 4] | _ => [], loopT := fun r ds m K => match r with | 2 => l_Compare_2 N ds m K | _ => none, jumps := 9 }
theorem F_Compare_2_ok {R : Type} (N : Nat) (l0 : List UInt8) (l1 : List UInt8) (n2 : Int) (L : List D → Mem → Option R) (K : Ex → List D → Mem → Option R) :
    roundK (fun st K => codeK (cx_Compare N) (loopN Tryd.f38 0) st K) 46 [0, 1, 5] [0, 1, 4] L [(.v (.bytes l0) .no), (.v (.bytes l1) .no), (.v (.int .i64 n2) .no)] [[]] K = F_Compare_2 N l0 l1 (fun n2 => L [(.v (.bytes l0) .no), (.v (.bytes l1) .no), (.v (.int .i64 n2) .no)] [[]]) (fun a2 => K .ret [(.v (.bytes l0) .no), (.v (.bytes l1) .no), (.v (.int .i64 a2) .no)] [[]]) (K (.exit 0) [(.v (.bytes l0) .no), (.v (.bytes l1) .no), .any] [[]]) n2 := by
  kernel_rfl
theorem S_Compare_2_ok {R : Type} (N : Nat) (l0 : List UInt8) (l1 : List UInt8) (K : Ex → List D → Mem → Option R) : ∀ (t : Nat) (n2 : Int),
    loopK (fun st K => codeK (cx_Compare N) (loopN Tryd.f38 0) st K) 46 [0, 1, 5] [0, 1, 4] t [(.v (.bytes l0) .no), (.v (.bytes l1) .no), (.v (.int .i64 n2) .no)] [[]] K = S_Compare_2 N l0 l1 t n2 (fun a2 => K .ret [(.v (.bytes l0) .no), (.v (.bytes l1) .no), (.v (.int .i64 a2) .no)] [[]]) (K (.exit 0) [(.v (.bytes l0) .no), (.v (.bytes l1) .no), .any] [[]])
  | 0, n2 => rfl
  | t + 1, n2 => (F_Compare_2_ok N l0 l1 n2 _ K).trans (congrArg (fun L => F_Compare_2 N l0 l1 L (fun a2 => K .ret [(.v (.bytes l0) .no), (.v (.bytes l1) .no), (.v (.int .i64 a2) .no)] [[]]) (K (.exit 0) [(.v (.bytes l0) .no), (.v (.bytes l1) .no), .any] [[]]) n2) (funext fun n2 => S_Compare_2_ok N l0 l1 K t n2))
theorem s_Compare_ok (N : Nat) (x0 : List UInt8) (x1 : List UInt8) : bodyK (cx_Compare N) Tryd.f38 [.v (.bytes x0) .no, .v (.bytes x1) .no] [] r_Compare = s_Compare N x0 x1 := by
  kernel_rfl
theorem go_Compare : Goes Tryd.prog 38 := goes_of Tryd.func38 (by kernel_rfl) (c := bodyOf Tryd.f38) (by kernel_rfl)
theorem eo_Compare (s : List UInt8 → List UInt8 → Option (Int)) (hs : ∀ (x0 : List UInt8) (x1 : List UInt8) (r0 : Int), s x0 x1 = some r0 → PureRet Tryd.prog T 38 [.v (.bytes x0) .no, .v (.bytes x1) .no] [.v (.int .i64 r0) .no]) : EntOK Tryd.prog T ⟨38, e_Compare s⟩ := by
  refine ⟨go_Compare, fun R ds K r h => ?_, fun R ds K => ?_⟩
  · simp only [e_Compare] at h
    split at h
    · obtain ⟨r0, h1, h2⟩ := bnd1_some h
      exact ⟨_, h2, hs _ _ _ h1⟩
    · cases h
  · simp only [e_Compare]
    split
    · rw [bnd1_b]; rfl
    · rfl
theorem co_Compare (N : Nat) : CxOK Tryd.prog (cx_Compare N) :=
  cxOK_of2 (es := []) (me := []) (ms := []) T_ok trivial trivial trivial rfl (fun _ _ _ _ => rfl) (fun _ _ _ _ _ _ => rfl) rfl
theorem lk_Compare_2 (N : Nat) : LoopOK (cx_Compare N) 46 (loopN Tryd.f38 0) := by
  refine loopOK_of (rid := 2) (by kernel_rfl) rfl rfl fun R ds m K r h => ?_
  have h : l_Compare_2 N ds m K = some r := h
  unfold l_Compare_2 at h
  split at h
  · exact ⟨N, Eq.trans (S_Compare_2_ok ..) h⟩
  · cases h
theorem lo_Compare (N : Nat) : LoopsOK (cx_Compare N) Tryd.f38.ntmps (bodyOf Tryd.f38) :=
  loopsOK_of (k := 1) (by kernel_rfl) ⟨trivial, lk_Compare_2 N⟩
theorem p_Compare (N : Nat) (x0 : List UInt8) (x1 : List UInt8) (r0 : Int) (h : s_Compare N x0 x1 = some r0) : PureRet Tryd.prog T 38 [.v (.bytes x0) .no, .v (.bytes x1) .no] [.v (.int .i64 r0) .no] :=
  pure_of (cx := cx_Compare N) (by kernel_rfl) (co_Compare N) Tryd.func38 (by kernel_rfl) (by kernel_rfl) (lo_Compare N) rfl rfl rfl (rf := r_Compare) ((s_Compare_ok N x0 x1).trans h) (fun rs' m h => by
    unfold r_Compare at h
    split at h
    · cases h; exact ⟨rfl, rfl⟩
    · cases h)
noncomputable def e_Same1 {R : Type} (s : List UInt8 → List UInt8 → Option (Bool)) (ds : List D) (K : List D → Option R) : Option R :=
  match ds with
  | [.v (.bytes x0) .no, .v (.bytes x1) .no] => bnd1 (s x0 x1) fun r0 => K [.v (.bool r0) .no]
  | _ => none
noncomputable def r_Same1 (rs : List D) (_ : Mem) : Option (Bool) :=
  match rs with
  | [.v (.bool r0) _] => some (r0)
  | _ => none
noncomputable def s_Same1 (N : Nat) (x0 : List UInt8) (x1 : List UInt8) : Option (Bool) := bnd1 (s_Compare N x0 x1) fun n0 => some (decide (n0 = 0))
noncomputable def cx_Same1 (N : Nat) : Cx := { T := T, isPure := tabP [⟨38, e_Compare (s_Compare N)⟩], pureK := fun g ds K => tabK [⟨38, e_Compare (s_Compare N)⟩] g ds K, memK := fun g dst ds m K => tabMK [] g dst ds m K, meth := tabM [], keep := fun _ => [], keepX := fun _ => [], loopT := fun _ _ _ _ => none, jumps := 9 }
theorem s_Same1_ok (N : Nat) (x0 : List UInt8) (x1 : List UInt8) : bodyK (cx_Same1 N) Tryd.f17 [.v (.bytes x0) .no, .v (.bytes x1) .no] [] r_Same1 = s_Same1 N x0 x1 := by
  kernel_rfl
theorem go_Same1 : Goes Tryd.prog 17 := goes_of Tryd.func17 (by kernel_rfl) (c := bodyOf Tryd.f17) (by kernel_rfl)
theorem eo_Same1 (s : List UInt8 → List UInt8 → Option (Bool)) (hs : ∀ (x0 : List UInt8) (x1 : List UInt8) (r0 : Bool), s x0 x1 = some r0 → PureRet Tryd.prog T 17 [.v (.bytes x0) .no, .v (.bytes x1) .no] [.v (.bool r0) .no]) : EntOK Tryd.prog T ⟨17, e_Same1 s⟩ := by
  refine ⟨go_Same1, fun R ds K r h => ?_, fun R ds K => ?_⟩
  · simp only [e_Same1] at h
    split at h
    · obtain ⟨r0, h1, h2⟩ := bnd1_some h
      exact ⟨_, h2, hs _ _ _ h1⟩
    · cases h
  · simp only [e_Same1]
    split
    · rw [bnd1_b]; rfl
    · rfl
theorem co_Same1 (N : Nat) : CxOK Tryd.prog (cx_Same1 N) :=
  cxOK_of2 (es := [⟨38, e_Compare (s_Compare N)⟩]) (me := []) (ms := []) T_ok ⟨eo_Compare _ (p_Compare N), trivial⟩ trivial trivial rfl (fun _ _ _ _ => rfl) (fun _ _ _ _ _ _ => rfl) rfl
theorem lo_Same1 (N : Nat) : LoopsOK (cx_Same1 N) Tryd.f17.ntmps (bodyOf Tryd.f17) :=
  loopsOK_of (k := 0) (by kernel_rfl) trivial
theorem p_Same1 (N : Nat) (x0 : List UInt8) (x1 : List UInt8) (r0 : Bool) (h : s_Same1 N x0 x1 = some r0) : PureRet Tryd.prog T 17 [.v (.bytes x0) .no, .v (.bytes x1) .no] [.v (.bool r0) .no] :=
  pure_of (cx := cx_Same1 N) (by kernel_rfl) (co_Same1 N) Tryd.func17 (by kernel_rfl) (by kernel_rfl) (lo_Same1 N) rfl rfl rfl (rf := r_Same1) ((s_Same1_ok N x0 x1).trans h) (fun rs' m h => by
    unfold r_Same1 at h
    split at h
    · cases h; exact ⟨rfl, rfl⟩
    · cases h)
end Go.Proofs.YtjpmogajlnkihaaDoor.En

/- The printed functions, together. -/

/- Functions of the program in plain Lean, joined to the program by evaluation; printed by a program. -/
namespace Go.Proofs.YtjpmogajlnkihaaDoor.En
open Go Go.Proofs
set_option maxRecDepth 100000
set_option linter.unusedVariables false
noncomputable def B_rDigits (N : Nat) (f : Int → Option (List UInt8)) (x0 : Int) : Option (List UInt8) := br (decide (x0 < 0)) (br (decide (IntKind.i64.wrap (x0.tdiv 10) = 0)) (some ([45, UInt8.ofNat (IntKind.u8.wrap (IntKind.i64.wrap (48 + IntKind.i64.wrap (0 - x0.tmod 10)))).toNat] : List UInt8)) (bnd1 (f (IntKind.i64.wrap (x0.tdiv 10))) fun l0 => br (decide (l0.length + [UInt8.ofNat (IntKind.u8.wrap (IntKind.i64.wrap (48 + IntKind.i64.wrap (0 - x0.tmod 10)))).toNat].length ≤ 9223372036854775807)) (some (l0 ++ [UInt8.ofNat (IntKind.u8.wrap (IntKind.i64.wrap (48 + IntKind.i64.wrap (0 - x0.tmod 10)))).toNat])) none)) (br (decide (x0 < 10)) (some [UInt8.ofNat (IntKind.u8.wrap (IntKind.i64.wrap (48 + x0.tmod 10))).toNat]) (bnd1 (f (IntKind.i64.wrap (x0.tdiv 10))) fun l1 => br (decide (l1.length + [UInt8.ofNat (IntKind.u8.wrap (IntKind.i64.wrap (48 + x0.tmod 10))).toNat].length ≤ 9223372036854775807)) (some (l1 ++ [UInt8.ofNat (IntKind.u8.wrap (IntKind.i64.wrap (48 + x0.tmod 10))).toNat])) none))
noncomputable def s_rDigits (N : Nat) : Nat → Int → Option (List UInt8) | 0, _ => none | n + 1, x0 => B_rDigits N (s_rDigits N n) x0
noncomputable def e_rSame {R : Type} (s : List V → List V → Option (Bool)) (ds : List D) (K : List D → Option R) : Option R :=
  match ds with
  | [.v (.sl 23 x0) .no, .v (.sl 23 x1) .no] => bnd1 (s x0 x1) fun r0 => K [.v (.bool r0) .no]
  | _ => none
noncomputable def r_rSame (rs : List D) (_ : Mem) : Option (Bool) :=
  match rs with
  | [.v (.bool r0) _] => some (r0)
  | _ => none
noncomputable def F_rSame_4 {R : Type} (N : Nat) (vs0 : List V) (vs1 : List V) (Lq : Int → Option R) (K0 : Bool → Option R) (K1 : Option R) (n2 : Int) : Option R := br (decide (n2 < (↑vs0.length : Int))) (br (decide (0 ≤ n2) && decide (n2 < (↑vs0.length : Int))) (at? vs0 n2.toNat fun x0 => x0.unAgg fun l1 => unCons l1 fun x2 l3 => V.unInt IntKind.i64 x2 fun n4 => unCons l3 fun x5 l6 => V.unInt IntKind.i64 x5 fun n7 => unCons l6 fun x8 l9 => V.unInt IntKind.i64 x8 fun n10 => unCons l9 fun x11 l12 => V.unInt IntKind.i64 x11 fun n13 => unNil l12 (br (decide (0 ≤ n2) && decide (n2 < (↑vs1.length : Int))) (at? vs1 n2.toNat fun x14 => x14.unAgg fun l15 => unCons l15 fun x16 l17 => V.unInt IntKind.i64 x16 fun n18 => unCons l17 fun x19 l20 => V.unInt IntKind.i64 x19 fun n21 => unCons l20 fun x22 l23 => V.unInt IntKind.i64 x22 fun n24 => unCons l23 fun x25 l26 => V.unInt IntKind.i64 x25 fun n27 => unNil l26 (br (!(decide (n4 = n18) && (decide (n7 = n21) && (decide (n10 = n24) && (decide (n13 = n27) && true))))) (K0 false) (Lq (IntKind.i64.wrap (n2 + 1))))) none)) none) K1
noncomputable def S_rSame_4 {R : Type} (N : Nat) (vs0 : List V) (vs1 : List V) : Nat → Int → (Bool → Option R) → (Option R) → Option R | 0, _, _, _ => none | t + 1, n2, K0, K1 => F_rSame_4 N vs0 vs1 (fun n2 => S_rSame_4 N vs0 vs1 t n2 K0 K1) K0 K1 n2
noncomputable def l_rSame_4 {R : Type} (N : Nat) (ds : List D) (m : Mem) (K : Ex → List D → Mem → Option R) : Option R :=
  match ds, m with
  | [(.v (.sl 23 vs0) .no), (.v (.sl 23 vs1) .no), (.v (.int .i64 n2) .no)], [[]] => S_rSame_4 N vs0 vs1 N n2 (fun a0 => K .ret [(.v (.bool a0) .no)] [[]]) (K (.exit 0) [.any] [[]])
  | _, _ => none
noncomputable def s_rSame (N : Nat) (x0 : List V) (x1 : List V) : Option (Bool) := br (!decide ((↑x0.length : Int) = (↑x1.length : Int))) (some false) (S_rSame_4 N x0 x1 N 0 (fun b0 => some b0) (some true))
noncomputable def cx_rSame (N : Nat) : Cx := { T := T, isPure := tabP [], pureK := fun g ds K => tabK [] g ds K, memK := fun g dst ds m K => tabMK [] g dst ds m K, meth := tabM [], keep := fun r => match r with | 4 => [0, 1, 5] | _ => [], keepX := fun r => match r with | 4 => [4] | _ => [], loopT := fun r ds m K => match r with | 4 => l_rSame_4 N ds m K | _ => none, jumps := 9 }
theorem F_rSame_4_ok {R : Type} (N : Nat) (vs0 : List V) (vs1 : List V) (n2 : Int) (L : List D → Mem → Option R) (K : Ex → List D → Mem → Option R) :
    roundK (fun st K => codeK (cx_rSame N) (loopN Tryd.f22 0) st K) 26 [0, 1, 5] [4] L [(.v (.sl 23 vs0) .no), (.v (.sl 23 vs1) .no), (.v (.int .i64 n2) .no)] [[]] K = F_rSame_4 N vs0 vs1 (fun n2 => L [(.v (.sl 23 vs0) .no), (.v (.sl 23 vs1) .no), (.v (.int .i64 n2) .no)] [[]]) (fun a0 => K .ret [(.v (.bool a0) .no)] [[]]) (K (.exit 0) [.any] [[]]) n2 := by
  kernel_rfl
theorem S_rSame_4_ok {R : Type} (N : Nat) (vs0 : List V) (vs1 : List V) (K : Ex → List D → Mem → Option R) : ∀ (t : Nat) (n2 : Int),
    loopK (fun st K => codeK (cx_rSame N) (loopN Tryd.f22 0) st K) 26 [0, 1, 5] [4] t [(.v (.sl 23 vs0) .no), (.v (.sl 23 vs1) .no), (.v (.int .i64 n2) .no)] [[]] K = S_rSame_4 N vs0 vs1 t n2 (fun a0 => K .ret [(.v (.bool a0) .no)] [[]]) (K (.exit 0) [.any] [[]])
  | 0, n2 => rfl
  | t + 1, n2 => (F_rSame_4_ok N vs0 vs1 n2 _ K).trans (congrArg (fun L => F_rSame_4 N vs0 vs1 L (fun a0 => K .ret [(.v (.bool a0) .no)] [[]]) (K (.exit 0) [.any] [[]]) n2) (funext fun n2 => S_rSame_4_ok N vs0 vs1 K t n2))
theorem s_rSame_ok (N : Nat) (x0 : List V) (x1 : List V) : bodyK (cx_rSame N) Tryd.f22 [.v (.sl 23 x0) .no, .v (.sl 23 x1) .no] [] r_rSame = s_rSame N x0 x1 := by
  kernel_rfl
theorem go_rSame : Goes Tryd.prog 22 := goes_of Tryd.func22 (by kernel_rfl) (c := bodyOf Tryd.f22) (by kernel_rfl)
theorem eo_rSame (s : List V → List V → Option (Bool)) (hs : ∀ (x0 : List V) (x1 : List V) (r0 : Bool), s x0 x1 = some r0 → PureRet Tryd.prog T 22 [.v (.sl 23 x0) .no, .v (.sl 23 x1) .no] [.v (.bool r0) .no]) : EntOK Tryd.prog T ⟨22, e_rSame s⟩ := by
  refine ⟨go_rSame, fun R ds K r h => ?_, fun R ds K => ?_⟩
  · simp only [e_rSame] at h
    split at h
    · obtain ⟨r0, h1, h2⟩ := bnd1_some h
      exact ⟨_, h2, hs _ _ _ h1⟩
    · cases h
  · simp only [e_rSame]
    split
    · rw [bnd1_b]; rfl
    · rfl
theorem co_rSame (N : Nat) : CxOK Tryd.prog (cx_rSame N) :=
  cxOK_of2 (es := []) (me := []) (ms := []) T_ok trivial trivial trivial rfl (fun _ _ _ _ => rfl) (fun _ _ _ _ _ _ => rfl) rfl
theorem lk_rSame_4 (N : Nat) : LoopOK (cx_rSame N) 26 (loopN Tryd.f22 0) := by
  refine loopOK_of (rid := 4) (by kernel_rfl) rfl rfl fun R ds m K r h => ?_
  have h : l_rSame_4 N ds m K = some r := h
  unfold l_rSame_4 at h
  split at h
  · exact ⟨N, Eq.trans (S_rSame_4_ok ..) h⟩
  · cases h
theorem lo_rSame (N : Nat) : LoopsOK (cx_rSame N) Tryd.f22.ntmps (bodyOf Tryd.f22) :=
  loopsOK_of (k := 1) (by kernel_rfl) ⟨trivial, lk_rSame_4 N⟩
theorem p_rSame (N : Nat) (x0 : List V) (x1 : List V) (r0 : Bool) (h : s_rSame N x0 x1 = some r0) : PureRet Tryd.prog T 22 [.v (.sl 23 x0) .no, .v (.sl 23 x1) .no] [.v (.bool r0) .no] :=
  pure_of (cx := cx_rSame N) (by kernel_rfl) (co_rSame N) Tryd.func22 (by kernel_rfl) (by kernel_rfl) (lo_rSame N) rfl rfl rfl (rf := r_rSame) ((s_rSame_ok N x0 x1).trans h) (fun rs' m h => by
    unfold r_rSame at h
    split at h
    · cases h; exact ⟨rfl, rfl⟩
    · cases h)
noncomputable def e_Join1 {R : Type} (s : List V → Option (List UInt8)) (ds : List D) (K : List D → Option R) : Option R :=
  match ds with
  | [.v (.sl 29 x0) .no] => bnd1 (s x0) fun r0 => K [.v (.bytes r0) .no]
  | _ => none
noncomputable def r_Join1 (rs : List D) (_ : Mem) : Option (List UInt8) :=
  match rs with
  | [.v (.bytes r0) _] => some (r0)
  | _ => none
noncomputable def F_Join1_3 {R : Type} (N : Nat) (vs0 : List V) (Lq : List UInt8 → Int → Option R) (K0 : List UInt8 → Option R) (l1 : List UInt8) (n2 : Int) : Option R := br (decide (n2 < (↑vs0.length : Int))) (br (decide (0 ≤ n2) && decide (n2 < (↑vs0.length : Int))) (at? vs0 n2.toNat fun x0 => x0.unBytes fun l1_1 => br (decide ((l1.length + l1_1.length) * 1 ≤ 140737488355328)) (Lq (l1 ++ l1_1) (IntKind.i64.wrap (n2 + 1))) none) none) (K0 l1)
noncomputable def S_Join1_3 {R : Type} (N : Nat) (vs0 : List V) : Nat → List UInt8 → Int → (List UInt8 → Option R) → Option R | 0, _, _, _ => none | t + 1, l1, n2, K0 => F_Join1_3 N vs0 (fun l1 n2 => S_Join1_3 N vs0 t l1 n2 K0) K0 l1 n2
noncomputable def l_Join1_3 {R : Type} (N : Nat) (ds : List D) (m : Mem) (K : Ex → List D → Mem → Option R) : Option R :=
  match ds, m with
  | [(.v (.sl 29 vs0) .no), (.v (.bytes l1) (.own (.slot 3) 5)), (.v (.int .i64 n2) .no)], [[]] => S_Join1_3 N vs0 N l1 n2 (fun a0 => K (.exit 0) [(.v (.bytes a0) (.own (.slot 3) 5))] [[]])
  | _, _ => none
noncomputable def s_Join1 (N : Nat) (x0 : List V) : Option (List UInt8) := S_Join1_3 N x0 N [] 0 fun l0 => some l0
noncomputable def cx_Join1 (N : Nat) : Cx := { T := T, isPure := tabP [], pureK := fun g ds K => tabK [] g ds K, memK := fun g dst ds m K => tabMK [] g dst ds m K, meth := tabM [], keep := fun r => match r with | 3 => [0, 3, 4] | _ => [], keepX := fun r => match r with | 3 => [3] | _ => [], loopT := fun r ds m K => match r with | 3 => l_Join1_3 N ds m K | _ => none, jumps := 9 }
theorem F_Join1_3_ok {R : Type} (N : Nat) (vs0 : List V) (l1 : List UInt8) (n2 : Int) (L : List D → Mem → Option R) (K : Ex → List D → Mem → Option R) :
    roundK (fun st K => codeK (cx_Join1 N) (loopN Tryd.f23 0) st K) 18 [0, 3, 4] [3] L [(.v (.sl 29 vs0) .no), (.v (.bytes l1) (.own (.slot 3) 5)), (.v (.int .i64 n2) .no)] [[]] K = F_Join1_3 N vs0 (fun l1 n2 => L [(.v (.sl 29 vs0) .no), (.v (.bytes l1) (.own (.slot 3) 5)), (.v (.int .i64 n2) .no)] [[]]) (fun a0 => K (.exit 0) [(.v (.bytes a0) (.own (.slot 3) 5))] [[]]) l1 n2 := by
  kernel_rfl
theorem S_Join1_3_ok {R : Type} (N : Nat) (vs0 : List V) (K : Ex → List D → Mem → Option R) : ∀ (t : Nat) (l1 : List UInt8) (n2 : Int),
    loopK (fun st K => codeK (cx_Join1 N) (loopN Tryd.f23 0) st K) 18 [0, 3, 4] [3] t [(.v (.sl 29 vs0) .no), (.v (.bytes l1) (.own (.slot 3) 5)), (.v (.int .i64 n2) .no)] [[]] K = S_Join1_3 N vs0 t l1 n2 (fun a0 => K (.exit 0) [(.v (.bytes a0) (.own (.slot 3) 5))] [[]])
  | 0, l1, n2 => rfl
  | t + 1, l1, n2 => (F_Join1_3_ok N vs0 l1 n2 _ K).trans (congrArg (fun L => F_Join1_3 N vs0 L (fun a0 => K (.exit 0) [(.v (.bytes a0) (.own (.slot 3) 5))] [[]]) l1 n2) (funext fun l1 => funext fun n2 => S_Join1_3_ok N vs0 K t l1 n2))
theorem s_Join1_ok (N : Nat) (x0 : List V) : bodyK (cx_Join1 N) Tryd.f23 [.v (.sl 29 x0) .no] [] r_Join1 = s_Join1 N x0 := by
  kernel_rfl
theorem go_Join1 : Goes Tryd.prog 23 := goes_of Tryd.func23 (by kernel_rfl) (c := bodyOf Tryd.f23) (by kernel_rfl)
theorem eo_Join1 (s : List V → Option (List UInt8)) (hs : ∀ (x0 : List V) (r0 : List UInt8), s x0 = some r0 → PureRet Tryd.prog T 23 [.v (.sl 29 x0) .no] [.v (.bytes r0) .no]) : EntOK Tryd.prog T ⟨23, e_Join1 s⟩ := by
  refine ⟨go_Join1, fun R ds K r h => ?_, fun R ds K => ?_⟩
  · simp only [e_Join1] at h
    split at h
    · obtain ⟨r0, h1, h2⟩ := bnd1_some h
      exact ⟨_, h2, hs _ _ h1⟩
    · cases h
  · simp only [e_Join1]
    split
    · rw [bnd1_b]; rfl
    · rfl
theorem co_Join1 (N : Nat) : CxOK Tryd.prog (cx_Join1 N) :=
  cxOK_of2 (es := []) (me := []) (ms := []) T_ok trivial trivial trivial rfl (fun _ _ _ _ => rfl) (fun _ _ _ _ _ _ => rfl) rfl
theorem lk_Join1_3 (N : Nat) : LoopOK (cx_Join1 N) 18 (loopN Tryd.f23 0) := by
  refine loopOK_of (rid := 3) (by kernel_rfl) rfl rfl fun R ds m K r h => ?_
  have h : l_Join1_3 N ds m K = some r := h
  unfold l_Join1_3 at h
  split at h
  · exact ⟨N, Eq.trans (S_Join1_3_ok ..) h⟩
  · cases h
theorem lo_Join1 (N : Nat) : LoopsOK (cx_Join1 N) Tryd.f23.ntmps (bodyOf Tryd.f23) :=
  loopsOK_of (k := 1) (by kernel_rfl) ⟨trivial, lk_Join1_3 N⟩
theorem p_Join1 (N : Nat) (x0 : List V) (r0 : List UInt8) (h : s_Join1 N x0 = some r0) : PureRet Tryd.prog T 23 [.v (.sl 29 x0) .no] [.v (.bytes r0) .no] :=
  pure_of (cx := cx_Join1 N) (by kernel_rfl) (co_Join1 N) Tryd.func23 (by kernel_rfl) (by kernel_rfl) (lo_Join1 N) rfl rfl rfl (rf := r_Join1) ((s_Join1_ok N x0).trans h) (fun rs' m h => by
    unfold r_Join1 at h
    split at h
    · cases h; exact ⟨rfl, rfl⟩
    · cases h)
end Go.Proofs.YtjpmogajlnkihaaDoor.En

/- The printed functions, together. -/

/- Functions of the program in plain Lean, joined to the program by evaluation; printed by a program. -/
namespace Go.Proofs.YtjpmogajlnkihaaDoor.En
open Go Go.Proofs
set_option maxRecDepth 100000
set_option linter.unusedVariables false
noncomputable def e_cCheck {R : Type} (s : Int → Int → Int → Int → Option (Int)) (ds : List D) (K : List D → Option R) : Option R :=
  match ds with
  | [.agg [.v (.int .i64 x0) .no, .v (.int .i64 x1) .no, .v (.int .i64 x2) .no, .v (.int .i64 x3) .no]] => bnd1 (s x0 x1 x2 x3) fun r0 => K [.v (.int .i64 r0) .no]
  | _ => none
noncomputable def r_cCheck (rs : List D) (_ : Mem) : Option (Int) :=
  match rs with
  | [.v (.int .i64 r0) _] => some (r0)
  | _ => none
noncomputable def F_cCheck_5 {R : Type} (N : Nat) (n0 : Int) (n1 : Int) (n2 : Int) (n4 : Int) (n5 : Int) (n6 : Int) (n7 : Int) (n8 : Int) (n9 : Int) (n10 : Int) (Lq : Int → Option R) (K0 : Int → Option R) (K1 : Option R) (n3 : Int) : Option R := br (decide (n3 < 3)) (br (decide (n3 = 0)) (br (decide (n3 = 0)) (br (decide (n0 = 0)) (br (!decide (n8 = 0)) (K0 4) (Lq (IntKind.i64.wrap (n3 + 1)))) (bnd2 (s_limits N n0 n5) fun n0_1 n1 => br (decide (n8 < n0_1)) (br (decide (n0 = 5)) (br (!decide (n8 = 255)) (K0 2) (Lq (IntKind.i64.wrap (n3 + 1)))) (K0 2)) (br (decide (n1 < n8)) (br (decide (n0 = 5)) (br (!decide (n8 = 255)) (K0 2) (Lq (IntKind.i64.wrap (n3 + 1)))) (K0 2)) (Lq (IntKind.i64.wrap (n3 + 1)))))) (br (decide (n3 = 1)) (br (decide (n0 = 0)) (br (!decide (n9 = 0)) (K0 4) (Lq (IntKind.i64.wrap (n3 + 1)))) (bnd2 (s_limits N n0 n5) fun n2 n3_1 => br (decide (n9 < n2)) (br (decide (n0 = 5)) (br (!decide (n9 = 255)) (K0 2) (Lq (IntKind.i64.wrap (n3 + 1)))) (K0 2)) (br (decide (n3_1 < n9)) (br (decide (n0 = 5)) (br (!decide (n9 = 255)) (K0 2) (Lq (IntKind.i64.wrap (n3 + 1)))) (K0 2)) (Lq (IntKind.i64.wrap (n3 + 1)))))) (br (decide (n3 = 2)) (br (decide (n0 = 0)) (br (!decide (n10 = 0)) (K0 4) (Lq (IntKind.i64.wrap (n3 + 1)))) (bnd2 (s_limits N n0 n5) fun n4 n5 => br (decide (n10 < n4)) (br (decide (n0 = 5)) (br (!decide (n10 = 255)) (K0 2) (Lq (IntKind.i64.wrap (n3 + 1)))) (K0 2)) (br (decide (n5 < n10)) (br (decide (n0 = 5)) (br (!decide (n10 = 255)) (K0 2) (Lq (IntKind.i64.wrap (n3 + 1)))) (K0 2)) (Lq (IntKind.i64.wrap (n3 + 1)))))) none))) (br (decide (n3 = 1)) (br (decide (n3 = 0)) (br (decide (n1 = 0)) (br (!decide (n8 = 0)) (K0 4) (Lq (IntKind.i64.wrap (n3 + 1)))) (bnd2 (s_limits N n1 n5) fun n6 n7 => br (decide (n8 < n6)) (br (decide (n1 = 5)) (br (!decide (n8 = 255)) (K0 2) (Lq (IntKind.i64.wrap (n3 + 1)))) (K0 2)) (br (decide (n7 < n8)) (br (decide (n1 = 5)) (br (!decide (n8 = 255)) (K0 2) (Lq (IntKind.i64.wrap (n3 + 1)))) (K0 2)) (Lq (IntKind.i64.wrap (n3 + 1)))))) (br (decide (n3 = 1)) (br (decide (n1 = 0)) (br (!decide (n9 = 0)) (K0 4) (Lq (IntKind.i64.wrap (n3 + 1)))) (bnd2 (s_limits N n1 n5) fun n8 n9_1 => br (decide (n9 < n8)) (br (decide (n1 = 5)) (br (!decide (n9 = 255)) (K0 2) (Lq (IntKind.i64.wrap (n3 + 1)))) (K0 2)) (br (decide (n9_1 < n9)) (br (decide (n1 = 5)) (br (!decide (n9 = 255)) (K0 2) (Lq (IntKind.i64.wrap (n3 + 1)))) (K0 2)) (Lq (IntKind.i64.wrap (n3 + 1)))))) (br (decide (n3 = 2)) (br (decide (n1 = 0)) (br (!decide (n10 = 0)) (K0 4) (Lq (IntKind.i64.wrap (n3 + 1)))) (bnd2 (s_limits N n1 n5) fun n10_1 n11 => br (decide (n10 < n10_1)) (br (decide (n1 = 5)) (br (!decide (n10 = 255)) (K0 2) (Lq (IntKind.i64.wrap (n3 + 1)))) (K0 2)) (br (decide (n11 < n10)) (br (decide (n1 = 5)) (br (!decide (n10 = 255)) (K0 2) (Lq (IntKind.i64.wrap (n3 + 1)))) (K0 2)) (Lq (IntKind.i64.wrap (n3 + 1)))))) none))) (br (decide (n3 = 2)) (br (decide (n3 = 0)) (br (decide (n2 = 0)) (br (!decide (n8 = 0)) (K0 4) (Lq (IntKind.i64.wrap (n3 + 1)))) (bnd2 (s_limits N n2 n5) fun n12 n13 => br (decide (n8 < n12)) (br (decide (n2 = 5)) (br (!decide (n8 = 255)) (K0 2) (Lq (IntKind.i64.wrap (n3 + 1)))) (K0 2)) (br (decide (n13 < n8)) (br (decide (n2 = 5)) (br (!decide (n8 = 255)) (K0 2) (Lq (IntKind.i64.wrap (n3 + 1)))) (K0 2)) (Lq (IntKind.i64.wrap (n3 + 1)))))) (br (decide (n3 = 1)) (br (decide (n2 = 0)) (br (!decide (n9 = 0)) (K0 4) (Lq (IntKind.i64.wrap (n3 + 1)))) (bnd2 (s_limits N n2 n5) fun n14 n15 => br (decide (n9 < n14)) (br (decide (n2 = 5)) (br (!decide (n9 = 255)) (K0 2) (Lq (IntKind.i64.wrap (n3 + 1)))) (K0 2)) (br (decide (n15 < n9)) (br (decide (n2 = 5)) (br (!decide (n9 = 255)) (K0 2) (Lq (IntKind.i64.wrap (n3 + 1)))) (K0 2)) (Lq (IntKind.i64.wrap (n3 + 1)))))) (br (decide (n3 = 2)) (br (decide (n2 = 0)) (br (!decide (n10 = 0)) (K0 4) (Lq (IntKind.i64.wrap (n3 + 1)))) (bnd2 (s_limits N n2 n5) fun n16 n17 => br (decide (n10 < n16)) (br (decide (n2 = 5)) (br (!decide (n10 = 255)) (K0 2) (Lq (IntKind.i64.wrap (n3 + 1)))) (K0 2)) (br (decide (n17 < n10)) (br (decide (n2 = 5)) (br (!decide (n10 = 255)) (K0 2) (Lq (IntKind.i64.wrap (n3 + 1)))) (K0 2)) (Lq (IntKind.i64.wrap (n3 + 1)))))) none))) none))) K1
noncomputable def S_cCheck_5 {R : Type} (N : Nat) (n0 : Int) (n1 : Int) (n2 : Int) (n4 : Int) (n5 : Int) (n6 : Int) (n7 : Int) (n8 : Int) (n9 : Int) (n10 : Int) : Nat → Int → (Int → Option R) → (Option R) → Option R | 0, _, _, _ => none | t + 1, n3, K0, K1 => F_cCheck_5 N n0 n1 n2 n4 n5 n6 n7 n8 n9 n10 (fun n3 => S_cCheck_5 N n0 n1 n2 n4 n5 n6 n7 n8 n9 n10 t n3 K0 K1) K0 K1 n3
noncomputable def l_cCheck_5 {R : Type} (N : Nat) (ds : List D) (m : Mem) (K : Ex → List D → Mem → Option R) : Option R :=
  match ds, m with
  | [(.ptr 0 1 0), (.ptr 0 3 0), (.agg [(.v (.int .i64 n0) .no), (.v (.int .i64 n1) .no), (.v (.int .i64 n2) .no)]), (.v (.int .i64 n3) .no)], [[(1, ⟨23, [(.v (.int .i64 n4) .no), (.v (.int .i64 n5) .no), (.v (.int .i64 n6) .no), (.v (.int .i64 n7) .no)]⟩), (3, ⟨57, [(.v (.int .i64 n8) .no), (.v (.int .i64 n9) .no), (.v (.int .i64 n10) .no)]⟩)]] => S_cCheck_5 N n0 n1 n2 n4 n5 n6 n7 n8 n9 n10 N n3 (fun a0 => K .ret [(.ptr 0 1 0), (.v (.int .i64 a0) .no), (.ptr 0 3 0)] [[(1, ⟨23, [(.v (.int .i64 n4) .no), (.v (.int .i64 n5) .no), (.v (.int .i64 n6) .no), (.v (.int .i64 n7) .no)]⟩), (3, ⟨57, [(.v (.int .i64 n8) .no), (.v (.int .i64 n9) .no), (.v (.int .i64 n10) .no)]⟩)]]) (K (.exit 0) [(.ptr 0 1 0), .any, (.ptr 0 3 0)] [[(1, ⟨23, [(.v (.int .i64 n4) .no), (.v (.int .i64 n5) .no), (.v (.int .i64 n6) .no), (.v (.int .i64 n7) .no)]⟩), (3, ⟨57, [(.v (.int .i64 n8) .no), (.v (.int .i64 n9) .no), (.v (.int .i64 n10) .no)]⟩)]])
  | _, _ => none
noncomputable def s_cCheck (N : Nat) (x0 : Int) (x1 : Int) (x2 : Int) (x3 : Int) : Option (Int) := br (decide (x0 < 0)) (some 4) (br (decide (54 ≤ x0)) (some 4) (bnd3 (s_operands N x0 x1 x2 x3) fun n0 n1 n2 => bnd3 (s_formOf N x0) fun n3 n4 n5 => S_cCheck_5 N n3 n4 n5 x0 x1 x2 x3 n0 n1 n2 N 0 (fun n6 => some n6) (some 0)))
noncomputable def cx_cCheck (N : Nat) : Cx := { T := T, isPure := tabP [⟨32, e_operands (s_operands N)⟩, ⟨33, e_formOf (s_formOf N)⟩, ⟨34, e_limits (s_limits N)⟩], pureK := fun g ds K => tabK [⟨32, e_operands (s_operands N)⟩, ⟨33, e_formOf (s_formOf N)⟩, ⟨34, e_limits (s_limits N)⟩] g ds K, memK := fun g dst ds m K => tabMK [] g dst ds m K, meth := tabM [], keep := fun r => match r with | 5 => [1, 3, 21, 22] | _ => [], keepX := fun r => match r with | 5 => [1, 2, 3] | _ => [], loopT := fun r ds m K => match r with | 5 => l_cCheck_5 N ds m K | _ => none, jumps := 9 }
theorem F_cCheck_5_ok {R : Type} (N : Nat) (n0 : Int) (n1 : Int) (n2 : Int) (n4 : Int) (n5 : Int) (n6 : Int) (n7 : Int) (n8 : Int) (n9 : Int) (n10 : Int) (n3 : Int) (L : List D → Mem → Option R) (K : Ex → List D → Mem → Option R) :
    roundK (fun st K => codeK (cx_cCheck N) (loopN Tryd.f12 0) st K) 58 [1, 3, 21, 22] [1, 2, 3] L [(.ptr 0 1 0), (.ptr 0 3 0), (.agg [(.v (.int .i64 n0) .no), (.v (.int .i64 n1) .no), (.v (.int .i64 n2) .no)]), (.v (.int .i64 n3) .no)] [[(1, ⟨23, [(.v (.int .i64 n4) .no), (.v (.int .i64 n5) .no), (.v (.int .i64 n6) .no), (.v (.int .i64 n7) .no)]⟩), (3, ⟨57, [(.v (.int .i64 n8) .no), (.v (.int .i64 n9) .no), (.v (.int .i64 n10) .no)]⟩)]] K = F_cCheck_5 N n0 n1 n2 n4 n5 n6 n7 n8 n9 n10 (fun n3 => L [(.ptr 0 1 0), (.ptr 0 3 0), (.agg [(.v (.int .i64 n0) .no), (.v (.int .i64 n1) .no), (.v (.int .i64 n2) .no)]), (.v (.int .i64 n3) .no)] [[(1, ⟨23, [(.v (.int .i64 n4) .no), (.v (.int .i64 n5) .no), (.v (.int .i64 n6) .no), (.v (.int .i64 n7) .no)]⟩), (3, ⟨57, [(.v (.int .i64 n8) .no), (.v (.int .i64 n9) .no), (.v (.int .i64 n10) .no)]⟩)]]) (fun a0 => K .ret [(.ptr 0 1 0), (.v (.int .i64 a0) .no), (.ptr 0 3 0)] [[(1, ⟨23, [(.v (.int .i64 n4) .no), (.v (.int .i64 n5) .no), (.v (.int .i64 n6) .no), (.v (.int .i64 n7) .no)]⟩), (3, ⟨57, [(.v (.int .i64 n8) .no), (.v (.int .i64 n9) .no), (.v (.int .i64 n10) .no)]⟩)]]) (K (.exit 0) [(.ptr 0 1 0), .any, (.ptr 0 3 0)] [[(1, ⟨23, [(.v (.int .i64 n4) .no), (.v (.int .i64 n5) .no), (.v (.int .i64 n6) .no), (.v (.int .i64 n7) .no)]⟩), (3, ⟨57, [(.v (.int .i64 n8) .no), (.v (.int .i64 n9) .no), (.v (.int .i64 n10) .no)]⟩)]]) n3 := by
  kernel_rfl
theorem S_cCheck_5_ok {R : Type} (N : Nat) (n0 : Int) (n1 : Int) (n2 : Int) (n4 : Int) (n5 : Int) (n6 : Int) (n7 : Int) (n8 : Int) (n9 : Int) (n10 : Int) (K : Ex → List D → Mem → Option R) : ∀ (t : Nat) (n3 : Int),
    loopK (fun st K => codeK (cx_cCheck N) (loopN Tryd.f12 0) st K) 58 [1, 3, 21, 22] [1, 2, 3] t [(.ptr 0 1 0), (.ptr 0 3 0), (.agg [(.v (.int .i64 n0) .no), (.v (.int .i64 n1) .no), (.v (.int .i64 n2) .no)]), (.v (.int .i64 n3) .no)] [[(1, ⟨23, [(.v (.int .i64 n4) .no), (.v (.int .i64 n5) .no), (.v (.int .i64 n6) .no), (.v (.int .i64 n7) .no)]⟩), (3, ⟨57, [(.v (.int .i64 n8) .no), (.v (.int .i64 n9) .no), (.v (.int .i64 n10) .no)]⟩)]] K = S_cCheck_5 N n0 n1 n2 n4 n5 n6 n7 n8 n9 n10 t n3 (fun a0 => K .ret [(.ptr 0 1 0), (.v (.int .i64 a0) .no), (.ptr 0 3 0)] [[(1, ⟨23, [(.v (.int .i64 n4) .no), (.v (.int .i64 n5) .no), (.v (.int .i64 n6) .no), (.v (.int .i64 n7) .no)]⟩), (3, ⟨57, [(.v (.int .i64 n8) .no), (.v (.int .i64 n9) .no), (.v (.int .i64 n10) .no)]⟩)]]) (K (.exit 0) [(.ptr 0 1 0), .any, (.ptr 0 3 0)] [[(1, ⟨23, [(.v (.int .i64 n4) .no), (.v (.int .i64 n5) .no), (.v (.int .i64 n6) .no), (.v (.int .i64 n7) .no)]⟩), (3, ⟨57, [(.v (.int .i64 n8) .no), (.v (.int .i64 n9) .no), (.v (.int .i64 n10) .no)]⟩)]])
  | 0, n3 => rfl
  | t + 1, n3 => (F_cCheck_5_ok N n0 n1 n2 n4 n5 n6 n7 n8 n9 n10 n3 _ K).trans (congrArg (fun L => F_cCheck_5 N n0 n1 n2 n4 n5 n6 n7 n8 n9 n10 L (fun a0 => K .ret [(.ptr 0 1 0), (.v (.int .i64 a0) .no), (.ptr 0 3 0)] [[(1, ⟨23, [(.v (.int .i64 n4) .no), (.v (.int .i64 n5) .no), (.v (.int .i64 n6) .no), (.v (.int .i64 n7) .no)]⟩), (3, ⟨57, [(.v (.int .i64 n8) .no), (.v (.int .i64 n9) .no), (.v (.int .i64 n10) .no)]⟩)]]) (K (.exit 0) [(.ptr 0 1 0), .any, (.ptr 0 3 0)] [[(1, ⟨23, [(.v (.int .i64 n4) .no), (.v (.int .i64 n5) .no), (.v (.int .i64 n6) .no), (.v (.int .i64 n7) .no)]⟩), (3, ⟨57, [(.v (.int .i64 n8) .no), (.v (.int .i64 n9) .no), (.v (.int .i64 n10) .no)]⟩)]]) n3) (funext fun n3 => S_cCheck_5_ok N n0 n1 n2 n4 n5 n6 n7 n8 n9 n10 K t n3))
theorem s_cCheck_ok (N : Nat) (x0 : Int) (x1 : Int) (x2 : Int) (x3 : Int) : bodyK (cx_cCheck N) Tryd.f12 [.agg [.v (.int .i64 x0) .no, .v (.int .i64 x1) .no, .v (.int .i64 x2) .no, .v (.int .i64 x3) .no]] [] r_cCheck = s_cCheck N x0 x1 x2 x3 := by
  kernel_rfl
theorem go_cCheck : Goes Tryd.prog 12 := goes_of Tryd.func12 (by kernel_rfl) (c := bodyOf Tryd.f12) (by kernel_rfl)
theorem eo_cCheck (s : Int → Int → Int → Int → Option (Int)) (hs : ∀ (x0 : Int) (x1 : Int) (x2 : Int) (x3 : Int) (r0 : Int), s x0 x1 x2 x3 = some r0 → PureRet Tryd.prog T 12 [.agg [.v (.int .i64 x0) .no, .v (.int .i64 x1) .no, .v (.int .i64 x2) .no, .v (.int .i64 x3) .no]] [.v (.int .i64 r0) .no]) : EntOK Tryd.prog T ⟨12, e_cCheck s⟩ := by
  refine ⟨go_cCheck, fun R ds K r h => ?_, fun R ds K => ?_⟩
  · simp only [e_cCheck] at h
    split at h
    · obtain ⟨r0, h1, h2⟩ := bnd1_some h
      exact ⟨_, h2, hs _ _ _ _ _ h1⟩
    · cases h
  · simp only [e_cCheck]
    split
    · rw [bnd1_b]; rfl
    · rfl
theorem co_cCheck (N : Nat) : CxOK Tryd.prog (cx_cCheck N) :=
  cxOK_of2 (es := [⟨32, e_operands (s_operands N)⟩, ⟨33, e_formOf (s_formOf N)⟩, ⟨34, e_limits (s_limits N)⟩]) (me := []) (ms := []) T_ok ⟨eo_operands _ (p_operands N), eo_formOf _ (p_formOf N), eo_limits _ (p_limits N), trivial⟩ trivial trivial rfl (fun _ _ _ _ => rfl) (fun _ _ _ _ _ _ => rfl) rfl
theorem lk_cCheck_5 (N : Nat) : LoopOK (cx_cCheck N) 58 (loopN Tryd.f12 0) := by
  refine loopOK_of (rid := 5) (by kernel_rfl) rfl rfl fun R ds m K r h => ?_
  have h : l_cCheck_5 N ds m K = some r := h
  unfold l_cCheck_5 at h
  split at h
  · exact ⟨N, Eq.trans (S_cCheck_5_ok ..) h⟩
  · cases h
theorem lo_cCheck (N : Nat) : LoopsOK (cx_cCheck N) Tryd.f12.ntmps (bodyOf Tryd.f12) :=
  loopsOK_of (k := 1) (by kernel_rfl) ⟨trivial, lk_cCheck_5 N⟩
theorem p_cCheck (N : Nat) (x0 : Int) (x1 : Int) (x2 : Int) (x3 : Int) (r0 : Int) (h : s_cCheck N x0 x1 x2 x3 = some r0) : PureRet Tryd.prog T 12 [.agg [.v (.int .i64 x0) .no, .v (.int .i64 x1) .no, .v (.int .i64 x2) .no, .v (.int .i64 x3) .no]] [.v (.int .i64 r0) .no] :=
  pure_of (cx := cx_cCheck N) (by kernel_rfl) (co_cCheck N) Tryd.func12 (by kernel_rfl) (by kernel_rfl) (lo_cCheck N) rfl rfl rfl (rf := r_cCheck) ((s_cCheck_ok N x0 x1 x2 x3).trans h) (fun rs' m h => by
    unfold r_cCheck at h
    split at h
    · cases h; exact ⟨rfl, rfl⟩
    · cases h)
end Go.Proofs.YtjpmogajlnkihaaDoor.En

/- The printed functions, together. -/
