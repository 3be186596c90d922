/- Part 6 of a proof. -/
import Derived.Test.YtkjcijlaehflhaaP05
import Derived.Test.YtkjcijlaehflhaaChecked
import Derived.KernelRfl
set_option linter.unusedVariables false
set_option linter.unusedSimpArgs false
set_option linter.defProp false
namespace Go.Proofs.Swa
open Go
noncomputable def fs26 : Array Field := match Try.prog.underlying 26 with | some (.struct fs) => fs | _ => #[]
noncomputable def fs30 : Array Field := match Try.prog.underlying 30 with | some (.struct fs) => fs | _ => #[]
noncomputable def fs28 : Array Field := match Try.prog.underlying 28 with | some (.struct fs) => fs | _ => #[]
noncomputable def fs76 : Array Field := match Try.prog.underlying 76 with | some (.struct fs) => fs | _ => #[]
noncomputable def fs78 : Array Field := match Try.prog.underlying 78 with | some (.struct fs) => fs | _ => #[]
noncomputable def fs85 : Array Field := match Try.prog.underlying 85 with | some (.struct fs) => fs | _ => #[]
noncomputable def fs91 : Array Field := match Try.prog.underlying 91 with | some (.struct fs) => fs | _ => #[]
noncomputable def fs101 : Array Field := match Try.prog.underlying 101 with | some (.struct fs) => fs | _ => #[]
noncomputable def fs99 : Array Field := match Try.prog.underlying 99 with | some (.struct fs) => fs | _ => #[]
theorem und31 : Try.prog.underlying 31 = some (.slice 3) := by kernel_rfl
theorem und26 : Try.prog.underlying 26 = some (.struct fs26) := by kernel_rfl
theorem und24 : Try.prog.underlying 24 = some (.slice 30) := by kernel_rfl
theorem und22 : Try.prog.underlying 22 = some (.slice 78) := by kernel_rfl
theorem und23 : Try.prog.underlying 23 = some (.slice 76) := by kernel_rfl
theorem und42 : Try.prog.underlying 42 = some (.slice 28) := by kernel_rfl
theorem und30 : Try.prog.underlying 30 = some (.struct fs30) := by kernel_rfl
theorem und28 : Try.prog.underlying 28 = some (.struct fs28) := by kernel_rfl
theorem und3 : Try.prog.underlying 3 = some (.int .i64) := by kernel_rfl
theorem und76 : Try.prog.underlying 76 = some (.struct fs76) := by kernel_rfl
theorem und78 : Try.prog.underlying 78 = some (.struct fs78) := by kernel_rfl
theorem und85 : Try.prog.underlying 85 = some (.struct fs85) := by kernel_rfl
theorem und83 : Try.prog.underlying 83 = some (.int .u64) := by kernel_rfl
theorem und91 : Try.prog.underlying 91 = some (.struct fs91) := by kernel_rfl
theorem und89 : Try.prog.underlying 89 = some (.slice 99) := by kernel_rfl
theorem und101 : Try.prog.underlying 101 = some (.struct fs101) := by kernel_rfl
theorem und99 : Try.prog.underlying 99 = some (.struct fs99) := by kernel_rfl
theorem und96 : Try.prog.underlying 96 = some (.array 11 94) := by kernel_rfl
theorem und94 : Try.prog.underlying 94 = some (.array 11 3) := by kernel_rfl
theorem und97 : Try.prog.underlying 97 = some (.slice 101) := by kernel_rfl
theorem sz26 : tySize Try.prog 26 = some 3 := by kernel_rfl
theorem sz3 : tySize Try.prog 3 = some 1 := by kernel_rfl
theorem sz24 : tySize Try.prog 24 = some 1 := by kernel_rfl
theorem sz30 : tySize Try.prog 30 = some 6 := by kernel_rfl
theorem sz22 : tySize Try.prog 22 = some 1 := by kernel_rfl
theorem sz23 : tySize Try.prog 23 = some 1 := by kernel_rfl
theorem sz28 : tySize Try.prog 28 = some 2 := by kernel_rfl
theorem sz76 : tySize Try.prog 76 = some 4 := by kernel_rfl
theorem sz78 : tySize Try.prog 78 = some 3 := by kernel_rfl
theorem sz83 : tySize Try.prog 83 = some 1 := by kernel_rfl
theorem sz4 : tySize Try.prog 4 = some 1 := by kernel_rfl
theorem sz91 : tySize Try.prog 91 = some 4 := by kernel_rfl
theorem sz89 : tySize Try.prog 89 = some 1 := by kernel_rfl
theorem sz99 : tySize Try.prog 99 = some 122 := by kernel_rfl
theorem sz101 : tySize Try.prog 101 = some 4 := by kernel_rfl
theorem sz96 : tySize Try.prog 96 = some 121 := by kernel_rfl
theorem sz94 : tySize Try.prog 94 = some 11 := by kernel_rfl
theorem sz97 : tySize Try.prog 97 = some 1 := by kernel_rfl
theorem sz154 : tySize Try.prog 154 = some 1 := by kernel_rfl
theorem by3 : tyBytes Try.prog 3 = some 8 := by kernel_rfl
theorem by30 : tyBytes Try.prog 30 = some 48 := by kernel_rfl
theorem by28 : tyBytes Try.prog 28 = some 16 := by kernel_rfl
theorem by78 : tyBytes Try.prog 78 = some 24 := by kernel_rfl
theorem by76 : tyBytes Try.prog 76 = some 32 := by kernel_rfl
theorem by99 : tyBytes Try.prog 99 = some 992 := by kernel_rfl
theorem by101 : tyBytes Try.prog 101 = some 32 := by kernel_rfl
theorem ag26 : tyAgg Try.prog 26 = some true := by kernel_rfl
theorem ag24 : tyAgg Try.prog 24 = some false := by kernel_rfl
theorem ag30 : tyAgg Try.prog 30 = some true := by kernel_rfl
theorem ag22 : tyAgg Try.prog 22 = some false := by kernel_rfl
theorem ag3 : tyAgg Try.prog 3 = some false := by kernel_rfl
theorem ag23 : tyAgg Try.prog 23 = some false := by kernel_rfl
theorem ag83 : tyAgg Try.prog 83 = some false := by kernel_rfl
theorem ag89 : tyAgg Try.prog 89 = some false := by kernel_rfl
theorem ag99 : tyAgg Try.prog 99 = some true := by kernel_rfl
theorem ag91 : tyAgg Try.prog 91 = some true := by kernel_rfl
theorem ag101 : tyAgg Try.prog 101 = some true := by kernel_rfl
theorem ag78 : tyAgg Try.prog 78 = some true := by kernel_rfl
theorem ag76 : tyAgg Try.prog 76 = some true := by kernel_rfl
theorem ag4 : tyAgg Try.prog 4 = some false := by kernel_rfl
theorem ag97 : tyAgg Try.prog 97 = some false := by kernel_rfl
theorem ag96 : tyAgg Try.prog 96 = some true := by kernel_rfl
theorem ag154 : tyAgg Try.prog 154 = some false := by kernel_rfl
theorem zr3 : tyZero Try.prog 3 = some (.int .i64 0) := by kernel_rfl
theorem zr26 : tyZero Try.prog 26 = some (.agg ([.slice none 0 0, .slice none 0 0, .slice none 0 0] : List Value).toArray) := by kernel_rfl
theorem zr30 : tyZero Try.prog 30 = some (.agg ([.int .i64 0, .int .i64 0, .int .i64 0, .int .i64 0, .int .i64 0] ++ [.bool false] : List Value).toArray) := by kernel_rfl
theorem zr28 : tyZero Try.prog 28 = some (.agg ([.int .i64 0, .int .i64 0] : List Value).toArray) := by kernel_rfl
theorem zr85 : tyZero Try.prog 85 = some (.agg ([.int .u64 0] : List Value).toArray) := by kernel_rfl
theorem zr78 : tyZero Try.prog 78 = some (.agg ([.int .i64 0, .int .i64 0, .int .i64 0] : List Value).toArray) := by kernel_rfl
theorem zr76 : tyZero Try.prog 76 = some (.agg ([.int .i64 0, .int .i64 0, .int .i64 0, .int .i64 0] : List Value).toArray) := by kernel_rfl
theorem zr91 : tyZero Try.prog 91 = some (.agg ([.slice none 0 0, .slice none 0 0, .slice none 0 0, .slice none 0 0] : List Value).toArray) := by kernel_rfl
theorem zr99 : tyZero Try.prog 99 = some (.agg (zs 121 ++ [.slice none 0 0] : List Value).toArray) := by kernel_rfl
theorem zr101 : tyZero Try.prog 101 = some (.agg ([.int .i64 0, .int .i64 0, .int .i64 0, .int .i64 0] : List Value).toArray) := by kernel_rfl
theorem zr96 : tyZero Try.prog 96 = some (.agg (zs 121 : List Value).toArray) := by kernel_rfl
theorem zr4 : tyZero Try.prog 4 = some (.bool false) := by kernel_rfl
theorem zr154 : tyZero Try.prog 154 = some (.nilFunc) := by kernel_rfl
theorem ld26 {H : AHeap} {b o : Nat} : loadA Try.prog 26 H (vptr b o) = (H.rd b).bind fun c => atN c o 3 := loadN ag26 sz26 _ rfl
theorem ld24 {H : AHeap} {b o : Nat} : loadA Try.prog 24 H (vptr b o) = (H.rd b).bind fun c => at1 c o := load1 ag24 _ rfl
theorem ld30 {H : AHeap} {b o : Nat} : loadA Try.prog 30 H (vptr b o) = (H.rd b).bind fun c => atN c o 6 := loadN ag30 sz30 _ rfl
theorem ld22 {H : AHeap} {b o : Nat} : loadA Try.prog 22 H (vptr b o) = (H.rd b).bind fun c => at1 c o := load1 ag22 _ rfl
theorem ld3 {H : AHeap} {b o : Nat} : loadA Try.prog 3 H (vptr b o) = (H.rd b).bind fun c => at1 c o := load1 ag3 _ rfl
theorem ld23 {H : AHeap} {b o : Nat} : loadA Try.prog 23 H (vptr b o) = (H.rd b).bind fun c => at1 c o := load1 ag23 _ rfl
theorem ld83 {H : AHeap} {b o : Nat} : loadA Try.prog 83 H (vptr b o) = (H.rd b).bind fun c => at1 c o := load1 ag83 _ rfl
theorem ld89 {H : AHeap} {b o : Nat} : loadA Try.prog 89 H (vptr b o) = (H.rd b).bind fun c => at1 c o := load1 ag89 _ rfl
theorem ld99 {H : AHeap} {b o : Nat} : loadA Try.prog 99 H (vptr b o) = (H.rd b).bind fun c => atN c o 122 := loadN ag99 sz99 _ rfl
theorem ld91 {H : AHeap} {b o : Nat} : loadA Try.prog 91 H (vptr b o) = (H.rd b).bind fun c => atN c o 4 := loadN ag91 sz91 _ rfl
theorem ld101 {H : AHeap} {b o : Nat} : loadA Try.prog 101 H (vptr b o) = (H.rd b).bind fun c => atN c o 4 := loadN ag101 sz101 _ rfl
theorem ld78 {H : AHeap} {b o : Nat} : loadA Try.prog 78 H (vptr b o) = (H.rd b).bind fun c => atN c o 3 := loadN ag78 sz78 _ rfl
theorem ld76 {H : AHeap} {b o : Nat} : loadA Try.prog 76 H (vptr b o) = (H.rd b).bind fun c => atN c o 4 := loadN ag76 sz76 _ rfl
theorem ld4 {H : AHeap} {b o : Nat} : loadA Try.prog 4 H (vptr b o) = (H.rd b).bind fun c => at1 c o := load1 ag4 _ rfl
theorem ld97 {H : AHeap} {b o : Nat} : loadA Try.prog 97 H (vptr b o) = (H.rd b).bind fun c => at1 c o := load1 ag97 _ rfl
theorem ld96 {H : AHeap} {b o : Nat} : loadA Try.prog 96 H (vptr b o) = (H.rd b).bind fun c => atN c o 121 := loadN ag96 sz96 _ rfl
theorem ld154 {H : AHeap} {b o : Nat} : loadA Try.prog 154 H (vptr b o) = (H.rd b).bind fun c => at1 c o := load1 ag154 _ rfl
theorem st26 {H : AHeap} {b o : Nat} {x : Value} : storeA Try.prog 26 H (vptr b o) x = stG H b o 3 x (H.get b) := store_of sz26
theorem st24 {H : AHeap} {b o : Nat} {x : Value} : storeA Try.prog 24 H (vptr b o) x = stG H b o 1 x (H.get b) := store_of sz24
theorem st28 {H : AHeap} {b o : Nat} {x : Value} : storeA Try.prog 28 H (vptr b o) x = stG H b o 2 x (H.get b) := store_of sz28
theorem st3 {H : AHeap} {b o : Nat} {x : Value} : storeA Try.prog 3 H (vptr b o) x = stG H b o 1 x (H.get b) := store_of sz3
theorem st30 {H : AHeap} {b o : Nat} {x : Value} : storeA Try.prog 30 H (vptr b o) x = stG H b o 6 x (H.get b) := store_of sz30
theorem st83 {H : AHeap} {b o : Nat} {x : Value} : storeA Try.prog 83 H (vptr b o) x = stG H b o 1 x (H.get b) := store_of sz83
theorem st22 {H : AHeap} {b o : Nat} {x : Value} : storeA Try.prog 22 H (vptr b o) x = stG H b o 1 x (H.get b) := store_of sz22
theorem st23 {H : AHeap} {b o : Nat} {x : Value} : storeA Try.prog 23 H (vptr b o) x = stG H b o 1 x (H.get b) := store_of sz23
theorem st4 {H : AHeap} {b o : Nat} {x : Value} : storeA Try.prog 4 H (vptr b o) x = stG H b o 1 x (H.get b) := store_of sz4
theorem st91 {H : AHeap} {b o : Nat} {x : Value} : storeA Try.prog 91 H (vptr b o) x = stG H b o 4 x (H.get b) := store_of sz91
theorem st99 {H : AHeap} {b o : Nat} {x : Value} : storeA Try.prog 99 H (vptr b o) x = stG H b o 122 x (H.get b) := store_of sz99
theorem st101 {H : AHeap} {b o : Nat} {x : Value} : storeA Try.prog 101 H (vptr b o) x = stG H b o 4 x (H.get b) := store_of sz101
theorem st78 {H : AHeap} {b o : Nat} {x : Value} : storeA Try.prog 78 H (vptr b o) x = stG H b o 3 x (H.get b) := store_of sz78
theorem st76 {H : AHeap} {b o : Nat} {x : Value} : storeA Try.prog 76 H (vptr b o) x = stG H b o 4 x (H.get b) := store_of sz76
theorem st89 {H : AHeap} {b o : Nat} {x : Value} : storeA Try.prog 89 H (vptr b o) x = stG H b o 1 x (H.get b) := store_of sz89
theorem st154 {H : AHeap} {b o : Nat} {x : Value} : storeA Try.prog 154 H (vptr b o) x = stG H b o 1 x (H.get b) := store_of sz154
theorem st97 {H : AHeap} {b o : Nat} {x : Value} : storeA Try.prog 97 H (vptr b o) x = stG H b o 1 x (H.get b) := store_of sz97
theorem st96 {H : AHeap} {b o : Nat} {x : Value} : storeA Try.prog 96 H (vptr b o) x = stG H b o 121 x (H.get b) := store_of sz96
theorem al26 {H : AHeap} : allocA Try.prog 26 H = some (vptr H.n 0, H.upd (H.n + 1) H.n (.cells ([.slice none 0 0, .slice none 0 0, .slice none 0 0] : List Value) 26 .ex)) := alloc_of zr26 (by kernel_rfl)
theorem al30 {H : AHeap} : allocA Try.prog 30 H = some (vptr H.n 0, H.upd (H.n + 1) H.n (.cells ([.int .i64 0, .int .i64 0, .int .i64 0, .int .i64 0, .int .i64 0] ++ [.bool false] : List Value) 30 .ex)) := alloc_of zr30 (by kernel_rfl)
theorem al91 {H : AHeap} : allocA Try.prog 91 H = some (vptr H.n 0, H.upd (H.n + 1) H.n (.cells ([.slice none 0 0, .slice none 0 0, .slice none 0 0, .slice none 0 0] : List Value) 91 .ex)) := alloc_of zr91 (by kernel_rfl)
theorem al99 {H : AHeap} : allocA Try.prog 99 H = some (vptr H.n 0, H.upd (H.n + 1) H.n (.cells (zs 121 ++ [.slice none 0 0] : List Value) 99 .ex)) := alloc_of zr99 (by kernel_rfl)
theorem al101 {H : AHeap} : allocA Try.prog 101 H = some (vptr H.n 0, H.upd (H.n + 1) H.n (.cells ([.int .i64 0, .int .i64 0, .int .i64 0, .int .i64 0] : List Value) 101 .ex)) := alloc_of zr101 (by kernel_rfl)
theorem al78 {H : AHeap} : allocA Try.prog 78 H = some (vptr H.n 0, H.upd (H.n + 1) H.n (.cells ([.int .i64 0, .int .i64 0, .int .i64 0] : List Value) 78 .ex)) := alloc_of zr78 (by kernel_rfl)
theorem al76 {H : AHeap} : allocA Try.prog 76 H = some (vptr H.n 0, H.upd (H.n + 1) H.n (.cells ([.int .i64 0, .int .i64 0, .int .i64 0, .int .i64 0] : List Value) 76 .ex)) := alloc_of zr76 (by kernel_rfl)
theorem al4 {H : AHeap} : allocA Try.prog 4 H = some (vptr H.n 0, H.upd (H.n + 1) H.n (.cells ([.bool false] : List Value) 4 .ex)) := alloc_of zr4 (by kernel_rfl)
theorem al154 {H : AHeap} : allocA Try.prog 154 H = some (vptr H.n 0, H.upd (H.n + 1) H.n (.cells ([.nilFunc] : List Value) 154 .ex)) := alloc_of zr154 (by kernel_rfl)
theorem al3 {H : AHeap} : allocA Try.prog 3 H = some (vptr H.n 0, H.upd (H.n + 1) H.n (.cells ([.int .i64 0] : List Value) 3 .ex)) := alloc_of zr3 (by kernel_rfl)
theorem al96 {H : AHeap} : allocA Try.prog 96 H = some (vptr H.n 0, H.upd (H.n + 1) H.n (.cells (zs 121 : List Value) 96 .ex)) := alloc_of zr96 (by kernel_rfl)
theorem fa26_2 {b o : Nat} : fieldAddrA Try.prog 26 (vptr b o) 2 = some (vptr b (o + 2)) := fieldAddr_of und26 (f := 2) (fd := (fs26[2]?).getD default) (by kernel_rfl) (sz := 1) (by kernel_rfl) (by decide) (by kernel_rfl)
theorem fa26_0 {b o : Nat} : fieldAddrA Try.prog 26 (vptr b o) 0 = some (vptr b (o + 0)) := fieldAddr_of und26 (f := 0) (fd := (fs26[0]?).getD default) (by kernel_rfl) (sz := 1) (by kernel_rfl) (by decide) (by kernel_rfl)
theorem fa26_1 {b o : Nat} : fieldAddrA Try.prog 26 (vptr b o) 1 = some (vptr b (o + 1)) := fieldAddr_of und26 (f := 1) (fd := (fs26[1]?).getD default) (by kernel_rfl) (sz := 1) (by kernel_rfl) (by decide) (by kernel_rfl)
theorem fa30_3 {b o : Nat} : fieldAddrA Try.prog 30 (vptr b o) 3 = some (vptr b (o + 3)) := fieldAddr_of und30 (f := 3) (fd := (fs30[3]?).getD default) (by kernel_rfl) (sz := 2) (by kernel_rfl) (by decide) (by kernel_rfl)
theorem fa28_1 {b o : Nat} : fieldAddrA Try.prog 28 (vptr b o) 1 = some (vptr b (o + 1)) := fieldAddr_of und28 (f := 1) (fd := (fs28[1]?).getD default) (by kernel_rfl) (sz := 1) (by kernel_rfl) (by decide) (by kernel_rfl)
theorem fa28_0 {b o : Nat} : fieldAddrA Try.prog 28 (vptr b o) 0 = some (vptr b (o + 0)) := fieldAddr_of und28 (f := 0) (fd := (fs28[0]?).getD default) (by kernel_rfl) (sz := 1) (by kernel_rfl) (by decide) (by kernel_rfl)
theorem fa30_2 {b o : Nat} : fieldAddrA Try.prog 30 (vptr b o) 2 = some (vptr b (o + 2)) := fieldAddr_of und30 (f := 2) (fd := (fs30[2]?).getD default) (by kernel_rfl) (sz := 1) (by kernel_rfl) (by decide) (by kernel_rfl)
theorem fa76_0 {b o : Nat} : fieldAddrA Try.prog 76 (vptr b o) 0 = some (vptr b (o + 0)) := fieldAddr_of und76 (f := 0) (fd := (fs76[0]?).getD default) (by kernel_rfl) (sz := 1) (by kernel_rfl) (by decide) (by kernel_rfl)
theorem fa76_1 {b o : Nat} : fieldAddrA Try.prog 76 (vptr b o) 1 = some (vptr b (o + 1)) := fieldAddr_of und76 (f := 1) (fd := (fs76[1]?).getD default) (by kernel_rfl) (sz := 1) (by kernel_rfl) (by decide) (by kernel_rfl)
theorem fa78_2 {b o : Nat} : fieldAddrA Try.prog 78 (vptr b o) 2 = some (vptr b (o + 2)) := fieldAddr_of und78 (f := 2) (fd := (fs78[2]?).getD default) (by kernel_rfl) (sz := 1) (by kernel_rfl) (by decide) (by kernel_rfl)
theorem fa30_0 {b o : Nat} : fieldAddrA Try.prog 30 (vptr b o) 0 = some (vptr b (o + 0)) := fieldAddr_of und30 (f := 0) (fd := (fs30[0]?).getD default) (by kernel_rfl) (sz := 1) (by kernel_rfl) (by decide) (by kernel_rfl)
theorem fa30_1 {b o : Nat} : fieldAddrA Try.prog 30 (vptr b o) 1 = some (vptr b (o + 1)) := fieldAddr_of und30 (f := 1) (fd := (fs30[1]?).getD default) (by kernel_rfl) (sz := 1) (by kernel_rfl) (by decide) (by kernel_rfl)
theorem fa76_2 {b o : Nat} : fieldAddrA Try.prog 76 (vptr b o) 2 = some (vptr b (o + 2)) := fieldAddr_of und76 (f := 2) (fd := (fs76[2]?).getD default) (by kernel_rfl) (sz := 1) (by kernel_rfl) (by decide) (by kernel_rfl)
theorem fa76_3 {b o : Nat} : fieldAddrA Try.prog 76 (vptr b o) 3 = some (vptr b (o + 3)) := fieldAddr_of und76 (f := 3) (fd := (fs76[3]?).getD default) (by kernel_rfl) (sz := 1) (by kernel_rfl) (by decide) (by kernel_rfl)
theorem fa85_0 {b o : Nat} : fieldAddrA Try.prog 85 (vptr b o) 0 = some (vptr b (o + 0)) := fieldAddr_of und85 (f := 0) (fd := (fs85[0]?).getD default) (by kernel_rfl) (sz := 1) (by kernel_rfl) (by decide) (by kernel_rfl)
theorem fa30_4 {b o : Nat} : fieldAddrA Try.prog 30 (vptr b o) 4 = some (vptr b (o + 5)) := fieldAddr_of und30 (f := 4) (fd := (fs30[4]?).getD default) (by kernel_rfl) (sz := 1) (by kernel_rfl) (by decide) (by kernel_rfl)
theorem fa91_1 {b o : Nat} : fieldAddrA Try.prog 91 (vptr b o) 1 = some (vptr b (o + 3)) := fieldAddr_of und91 (f := 1) (fd := (fs91[1]?).getD default) (by kernel_rfl) (sz := 1) (by kernel_rfl) (by decide) (by kernel_rfl)
theorem fa99_0 {b o : Nat} : fieldAddrA Try.prog 99 (vptr b o) 0 = some (vptr b (o + 0)) := fieldAddr_of und99 (f := 0) (fd := (fs99[0]?).getD default) (by kernel_rfl) (sz := 121) (by kernel_rfl) (by decide) (by kernel_rfl)
theorem fa78_0 {b o : Nat} : fieldAddrA Try.prog 78 (vptr b o) 0 = some (vptr b (o + 0)) := fieldAddr_of und78 (f := 0) (fd := (fs78[0]?).getD default) (by kernel_rfl) (sz := 1) (by kernel_rfl) (by decide) (by kernel_rfl)
theorem fa78_1 {b o : Nat} : fieldAddrA Try.prog 78 (vptr b o) 1 = some (vptr b (o + 1)) := fieldAddr_of und78 (f := 1) (fd := (fs78[1]?).getD default) (by kernel_rfl) (sz := 1) (by kernel_rfl) (by decide) (by kernel_rfl)
theorem fa101_3 {b o : Nat} : fieldAddrA Try.prog 101 (vptr b o) 3 = some (vptr b (o + 3)) := fieldAddr_of und101 (f := 3) (fd := (fs101[3]?).getD default) (by kernel_rfl) (sz := 1) (by kernel_rfl) (by decide) (by kernel_rfl)
theorem fa99_1 {b o : Nat} : fieldAddrA Try.prog 99 (vptr b o) 1 = some (vptr b (o + 121)) := fieldAddr_of und99 (f := 1) (fd := (fs99[1]?).getD default) (by kernel_rfl) (sz := 1) (by kernel_rfl) (by decide) (by kernel_rfl)
theorem fa101_0 {b o : Nat} : fieldAddrA Try.prog 101 (vptr b o) 0 = some (vptr b (o + 0)) := fieldAddr_of und101 (f := 0) (fd := (fs101[0]?).getD default) (by kernel_rfl) (sz := 1) (by kernel_rfl) (by decide) (by kernel_rfl)
theorem fa91_0 {b o : Nat} : fieldAddrA Try.prog 91 (vptr b o) 0 = some (vptr b (o + 0)) := fieldAddr_of und91 (f := 0) (fd := (fs91[0]?).getD default) (by kernel_rfl) (sz := 3) (by kernel_rfl) (by decide) (by kernel_rfl)
theorem fa101_1 {b o : Nat} : fieldAddrA Try.prog 101 (vptr b o) 1 = some (vptr b (o + 1)) := fieldAddr_of und101 (f := 1) (fd := (fs101[1]?).getD default) (by kernel_rfl) (sz := 1) (by kernel_rfl) (by decide) (by kernel_rfl)
theorem fa101_2 {b o : Nat} : fieldAddrA Try.prog 101 (vptr b o) 2 = some (vptr b (o + 2)) := fieldAddr_of und101 (f := 2) (fd := (fs101[2]?).getD default) (by kernel_rfl) (sz := 1) (by kernel_rfl) (by decide) (by kernel_rfl)
theorem fd101_1 {cs : Array Value} : fieldA Try.prog 101 (.agg cs) 1 = at1 cs.toList 1 := field1_of und101 (f := 1) (fd := (fs101[1]?).getD default) (by kernel_rfl) (by kernel_rfl) (sz := 1) (by kernel_rfl) (by kernel_rfl)
theorem fd101_2 {cs : Array Value} : fieldA Try.prog 101 (.agg cs) 2 = at1 cs.toList 2 := field1_of und101 (f := 2) (fd := (fs101[2]?).getD default) (by kernel_rfl) (by kernel_rfl) (sz := 1) (by kernel_rfl) (by kernel_rfl)
theorem ia31 {b o n c : Nat} {k : IntKind} {i : Int} (h0 : 0 ≤ i) (h1 : i < n) : indexAddrA Try.prog 31 (.slice (some ⟨b, o, none⟩) n c) (.int k i) = some (vptr b (o + i.toNat * 1)) := indexAddrA_sl und31 sz3 h0 h1
theorem ia42 {b o n c : Nat} {k : IntKind} {i : Int} (h0 : 0 ≤ i) (h1 : i < n) : indexAddrA Try.prog 42 (.slice (some ⟨b, o, none⟩) n c) (.int k i) = some (vptr b (o + i.toNat * 2)) := indexAddrA_sl und42 sz28 h0 h1
theorem ia24 {b o n c : Nat} {k : IntKind} {i : Int} (h0 : 0 ≤ i) (h1 : i < n) : indexAddrA Try.prog 24 (.slice (some ⟨b, o, none⟩) n c) (.int k i) = some (vptr b (o + i.toNat * 6)) := indexAddrA_sl und24 sz30 h0 h1
theorem ia23 {b o n c : Nat} {k : IntKind} {i : Int} (h0 : 0 ≤ i) (h1 : i < n) : indexAddrA Try.prog 23 (.slice (some ⟨b, o, none⟩) n c) (.int k i) = some (vptr b (o + i.toNat * 4)) := indexAddrA_sl und23 sz76 h0 h1
theorem ia22 {b o n c : Nat} {k : IntKind} {i : Int} (h0 : 0 ≤ i) (h1 : i < n) : indexAddrA Try.prog 22 (.slice (some ⟨b, o, none⟩) n c) (.int k i) = some (vptr b (o + i.toNat * 3)) := indexAddrA_sl und22 sz78 h0 h1
theorem ia89 {b o n c : Nat} {k : IntKind} {i : Int} (h0 : 0 ≤ i) (h1 : i < n) : indexAddrA Try.prog 89 (.slice (some ⟨b, o, none⟩) n c) (.int k i) = some (vptr b (o + i.toNat * 122)) := indexAddrA_sl und89 sz99 h0 h1
theorem ia96 {b o : Nat} {k : IntKind} {i : Int} (h0 : 0 ≤ i) (h1 : i < 11) : indexAddrA Try.prog 96 (vptr b o) (.int k i) = some (vptr b (o + i.toNat * 11)) := indexAddrA_arr und96 sz94 h0 h1
theorem ia94 {b o : Nat} {k : IntKind} {i : Int} (h0 : 0 ≤ i) (h1 : i < 11) : indexAddrA Try.prog 94 (vptr b o) (.int k i) = some (vptr b (o + i.toNat * 1)) := indexAddrA_arr und94 sz3 h0 h1
theorem ia97 {b o n c : Nat} {k : IntKind} {i : Int} (h0 : 0 ≤ i) (h1 : i < n) : indexAddrA Try.prog 97 (.slice (some ⟨b, o, none⟩) n c) (.int k i) = some (vptr b (o + i.toNat * 4)) := indexAddrA_sl und97 sz101 h0 h1
theorem ias31 {H : AHeap} {n : Nat} {v : Value} {c : List Value} (h : SR H 1 n v c) {k : IntKind} {i : Int} (h0 : 0 ≤ i) (h1 : i < n) : indexAddrA Try.prog 31 v (.int k i) = some (vptr (vblk v) (voff v + i.toNat * 1)) := h.indexAddr und31 sz3 h0 h1
theorem ias42 {H : AHeap} {n : Nat} {v : Value} {c : List Value} (h : SR H 2 n v c) {k : IntKind} {i : Int} (h0 : 0 ≤ i) (h1 : i < n) : indexAddrA Try.prog 42 v (.int k i) = some (vptr (vblk v) (voff v + i.toNat * 2)) := h.indexAddr und42 sz28 h0 h1
theorem ias24 {H : AHeap} {n : Nat} {v : Value} {c : List Value} (h : SR H 6 n v c) {k : IntKind} {i : Int} (h0 : 0 ≤ i) (h1 : i < n) : indexAddrA Try.prog 24 v (.int k i) = some (vptr (vblk v) (voff v + i.toNat * 6)) := h.indexAddr und24 sz30 h0 h1
theorem ias23 {H : AHeap} {n : Nat} {v : Value} {c : List Value} (h : SR H 4 n v c) {k : IntKind} {i : Int} (h0 : 0 ≤ i) (h1 : i < n) : indexAddrA Try.prog 23 v (.int k i) = some (vptr (vblk v) (voff v + i.toNat * 4)) := h.indexAddr und23 sz76 h0 h1
theorem ias22 {H : AHeap} {n : Nat} {v : Value} {c : List Value} (h : SR H 3 n v c) {k : IntKind} {i : Int} (h0 : 0 ≤ i) (h1 : i < n) : indexAddrA Try.prog 22 v (.int k i) = some (vptr (vblk v) (voff v + i.toNat * 3)) := h.indexAddr und22 sz78 h0 h1
theorem ias89 {H : AHeap} {n : Nat} {v : Value} {c : List Value} (h : SR H 122 n v c) {k : IntKind} {i : Int} (h0 : 0 ≤ i) (h1 : i < n) : indexAddrA Try.prog 89 v (.int k i) = some (vptr (vblk v) (voff v + i.toNat * 122)) := h.indexAddr und89 sz99 h0 h1
theorem ias97 {H : AHeap} {n : Nat} {v : Value} {c : List Value} (h : SR H 4 n v c) {k : IntKind} {i : Int} (h0 : 0 ≤ i) (h1 : i < n) : indexAddrA Try.prog 97 v (.int k i) = some (vptr (vblk v) (voff v + i.toNat * 4)) := h.indexAddr und97 sz101 h0 h1
theorem ln22 {H : AHeap} {a : Option Addr} {n c : Nat} : lenV Try.prog 22 (.slice a n c) H = some (.int .i64 n) := len_sl und22
theorem ln24 {H : AHeap} {a : Option Addr} {n c : Nat} : lenV Try.prog 24 (.slice a n c) H = some (.int .i64 n) := len_sl und24
theorem ln23 {H : AHeap} {a : Option Addr} {n c : Nat} : lenV Try.prog 23 (.slice a n c) H = some (.int .i64 n) := len_sl und23
theorem ln42 {H : AHeap} {a : Option Addr} {n c : Nat} : lenV Try.prog 42 (.slice a n c) H = some (.int .i64 n) := len_sl und42
theorem ln31 {H : AHeap} {a : Option Addr} {n c : Nat} : lenV Try.prog 31 (.slice a n c) H = some (.int .i64 n) := len_sl und31
theorem ln89 {H : AHeap} {a : Option Addr} {n c : Nat} : lenV Try.prog 89 (.slice a n c) H = some (.int .i64 n) := len_sl und89
theorem ln97 {H : AHeap} {a : Option Addr} {n c : Nat} : lenV Try.prog 97 (.slice a n c) H = some (.int .i64 n) := len_sl und97
theorem lns22 {H H' : AHeap} {s n : Nat} {v : Value} {c : List Value} (h : SR H s n v c) : lenV Try.prog 22 v H' = some (.int .i64 n) := h.lenV und22
theorem lns24 {H H' : AHeap} {s n : Nat} {v : Value} {c : List Value} (h : SR H s n v c) : lenV Try.prog 24 v H' = some (.int .i64 n) := h.lenV und24
theorem lns23 {H H' : AHeap} {s n : Nat} {v : Value} {c : List Value} (h : SR H s n v c) : lenV Try.prog 23 v H' = some (.int .i64 n) := h.lenV und23
theorem lns42 {H H' : AHeap} {s n : Nat} {v : Value} {c : List Value} (h : SR H s n v c) : lenV Try.prog 42 v H' = some (.int .i64 n) := h.lenV und42
theorem lns31 {H H' : AHeap} {s n : Nat} {v : Value} {c : List Value} (h : SR H s n v c) : lenV Try.prog 31 v H' = some (.int .i64 n) := h.lenV und31
theorem lns89 {H H' : AHeap} {s n : Nat} {v : Value} {c : List Value} (h : SR H s n v c) : lenV Try.prog 89 v H' = some (.int .i64 n) := h.lenV und89
theorem lns97 {H H' : AHeap} {s n : Nat} {v : Value} {c : List Value} (h : SR H s n v c) : lenV Try.prog 97 v H' = some (.int .i64 n) := h.lenV und97
theorem bd28 {parts : List (Nat × Value)} : buildA Try.prog 28 parts = (fillL [(0, 1), (1, 1)] ((.agg ([.int .i64 0, .int .i64 0] : List Value).toArray) : Value).cells.toList parts).map fun c => .agg c.toArray := build_of zr28 (by kernel_rfl) und28 (by kernel_rfl)
theorem bd85 {parts : List (Nat × Value)} : buildA Try.prog 85 parts = (fillL [(0, 1)] ((.agg ([.int .u64 0] : List Value).toArray) : Value).cells.toList parts).map fun c => .agg c.toArray := build_of zr85 (by kernel_rfl) und85 (by kernel_rfl)
theorem bd78 {parts : List (Nat × Value)} : buildA Try.prog 78 parts = (fillL [(0, 1), (1, 1), (2, 1)] ((.agg ([.int .i64 0, .int .i64 0, .int .i64 0] : List Value).toArray) : Value).cells.toList parts).map fun c => .agg c.toArray := build_of zr78 (by kernel_rfl) und78 (by kernel_rfl)
theorem bd76 {parts : List (Nat × Value)} : buildA Try.prog 76 parts = (fillL [(0, 1), (1, 1), (2, 1), (3, 1)] ((.agg ([.int .i64 0, .int .i64 0, .int .i64 0, .int .i64 0] : List Value).toArray) : Value).cells.toList parts).map fun c => .agg c.toArray := build_of zr76 (by kernel_rfl) und76 (by kernel_rfl)
theorem bd30 {parts : List (Nat × Value)} : buildA Try.prog 30 parts = (fillL [(0, 1), (1, 1), (2, 1), (3, 2), (5, 1)] ((.agg ([.int .i64 0, .int .i64 0, .int .i64 0, .int .i64 0, .int .i64 0] ++ [.bool false] : List Value).toArray) : Value).cells.toList parts).map fun c => .agg c.toArray := build_of zr30 (by kernel_rfl) und30 (by kernel_rfl)
theorem bd91 {parts : List (Nat × Value)} : buildA Try.prog 91 parts = (fillL [(0, 3), (3, 1)] ((.agg ([.slice none 0 0, .slice none 0 0, .slice none 0 0, .slice none 0 0] : List Value).toArray) : Value).cells.toList parts).map fun c => .agg c.toArray := build_of zr91 (by kernel_rfl) und91 (by kernel_rfl)
theorem bd101 {parts : List (Nat × Value)} : buildA Try.prog 101 parts = (fillL [(0, 1), (1, 1), (2, 1), (3, 1)] ((.agg ([.int .i64 0, .int .i64 0, .int .i64 0, .int .i64 0] : List Value).toArray) : Value).cells.toList parts).map fun c => .agg c.toArray := build_of zr101 (by kernel_rfl) und101 (by kernel_rfl)
theorem bd99 {parts : List (Nat × Value)} : buildA Try.prog 99 parts = (fillL [(0, 121), (121, 1)] ((.agg (zs 121 ++ [.slice none 0 0] : List Value).toArray) : Value).cells.toList parts).map fun c => .agg c.toArray := build_of zr99 (by kernel_rfl) und99 (by kernel_rfl)
theorem bd85_0 {x0 : Value} (h0 : one x0) : buildA Try.prog 85 [(0, x0)] = some (.agg ⟨[x0]⟩) := by rw [bd85]; rw [fillL_one rfl h0 (by simp [*, zs_len, splice_length, Value.cells])]; simp [fillL_nil, splice, zs_len, Value.cells, List.drop_append, *]
theorem bd78_0_1_2 {x0 : Value} {x1 : Value} {x2 : Value} (h0 : one x0) (h1 : one x1) (h2 : one x2) : buildA Try.prog 78 [(0, x0), (1, x1), (2, x2)] = some (.agg ⟨[x0, x1, x2]⟩) := by rw [bd78]; rw [fillL_one rfl h0 (by simp [*, zs_len, splice_length, Value.cells])]; rw [fillL_one rfl h1 (by simp [*, zs_len, splice_length, Value.cells])]; rw [fillL_one rfl h2 (by simp [*, zs_len, splice_length, Value.cells])]; simp [fillL_nil, splice, zs_len, Value.cells, List.drop_append, *]
theorem bd76_0_1_2_3 {x0 : Value} {x1 : Value} {x2 : Value} {x3 : Value} (h0 : one x0) (h1 : one x1) (h2 : one x2) (h3 : one x3) : buildA Try.prog 76 [(0, x0), (1, x1), (2, x2), (3, x3)] = some (.agg ⟨[x0, x1, x2, x3]⟩) := by rw [bd76]; rw [fillL_one rfl h0 (by simp [*, zs_len, splice_length, Value.cells])]; rw [fillL_one rfl h1 (by simp [*, zs_len, splice_length, Value.cells])]; rw [fillL_one rfl h2 (by simp [*, zs_len, splice_length, Value.cells])]; rw [fillL_one rfl h3 (by simp [*, zs_len, splice_length, Value.cells])]; simp [fillL_nil, splice, zs_len, Value.cells, List.drop_append, *]
theorem bd30_0_1_2 {x0 : Value} {x1 : Value} {x2 : Value} (h0 : one x0) (h1 : one x1) (h2 : one x2) : buildA Try.prog 30 [(0, x0), (1, x1), (2, x2)] = some (.agg ⟨[x0, x1, x2, .int .i64 0, .int .i64 0, .bool false]⟩) := by rw [bd30]; rw [fillL_one rfl h0 (by simp [*, zs_len, splice_length, Value.cells])]; rw [fillL_one rfl h1 (by simp [*, zs_len, splice_length, Value.cells])]; rw [fillL_one rfl h2 (by simp [*, zs_len, splice_length, Value.cells])]; simp [fillL_nil, splice, zs_len, Value.cells, List.drop_append, *]
theorem bd28_0_1 {x0 : Value} {x1 : Value} (h0 : one x0) (h1 : one x1) : buildA Try.prog 28 [(0, x0), (1, x1)] = some (.agg ⟨[x0, x1]⟩) := by rw [bd28]; rw [fillL_one rfl h0 (by simp [*, zs_len, splice_length, Value.cells])]; rw [fillL_one rfl h1 (by simp [*, zs_len, splice_length, Value.cells])]; simp [fillL_nil, splice, zs_len, Value.cells, List.drop_append, *]
theorem bd91_0 {x0 : List Value} (h0 : x0.length = 3) : buildA Try.prog 91 [(0, .agg ⟨x0⟩)] = some (.agg ⟨x0 ++ [.slice none 0 0]⟩) := by rw [bd91]; rw [fillL_agg rfl h0 (by simp [*, zs_len, splice_length, Value.cells])]; simp [fillL_nil, splice, zs_len, Value.cells, List.drop_append, *]
theorem bd101_0 {x0 : Value} (h0 : one x0) : buildA Try.prog 101 [(0, x0)] = some (.agg ⟨[x0, .int .i64 0, .int .i64 0, .int .i64 0]⟩) := by rw [bd101]; rw [fillL_one rfl h0 (by simp [*, zs_len, splice_length, Value.cells])]; simp [fillL_nil, splice, zs_len, Value.cells, List.drop_append, *]
theorem bd99_0_1 {x0 : List Value} {x1 : Value} (h0 : x0.length = 121) (h1 : one x1) : buildA Try.prog 99 [(0, .agg ⟨x0⟩), (1, x1)] = some (.agg ⟨x0 ++ [x1]⟩) := by rw [bd99]; rw [fillL_agg rfl h0 (by simp [*, zs_len, splice_length, Value.cells])]; rw [fillL_one rfl h1 (by simp [*, zs_len, splice_length, Value.cells])]; simp [fillL_nil, splice, zs_len, Value.cells, List.drop_append, *]
theorem bs31_2 {H : AHeap} {x0 : Value} {x1 : Value} (h0 : one x0) (h1 : one x1) : buildSliceA Try.prog 31 2 [(0, x0), (1, x1)] H = some (.slice (some ⟨H.n, 0, none⟩) 2 2, H.upd (H.n + 1) H.n (.cells ([x0, x1]) 3 .ex)) := buildSlice_of und31 sz3 zr3 (by kernel_rfl) (by kernel_rfl) (by decide) (by decide) rfl (by simp [elts_one h0, elts_one h1, elts_nil])
theorem bs24_1 {H : AHeap} {x0 : List Value} (h0 : x0.length = 6) : buildSliceA Try.prog 24 1 [(0, .agg ⟨x0⟩)] H = some (.slice (some ⟨H.n, 0, none⟩) 1 1, H.upd (H.n + 1) H.n (.cells (x0) 30 .ex)) := buildSlice_of und24 sz30 zr30 (by kernel_rfl) (by kernel_rfl) (by decide) (by decide) rfl (by simp [elts_agg h0, elts_nil])
theorem bs31_4 {H : AHeap} {x0 : Value} {x1 : Value} {x2 : Value} {x3 : Value} (h0 : one x0) (h1 : one x1) (h2 : one x2) (h3 : one x3) : buildSliceA Try.prog 31 4 [(0, x0), (1, x1), (2, x2), (3, x3)] H = some (.slice (some ⟨H.n, 0, none⟩) 4 4, H.upd (H.n + 1) H.n (.cells ([x0, x1, x2, x3]) 3 .ex)) := buildSlice_of und31 sz3 zr3 (by kernel_rfl) (by kernel_rfl) (by decide) (by decide) rfl (by simp [elts_one h0, elts_one h1, elts_one h2, elts_one h3, elts_nil])
theorem bs31_3 {H : AHeap} {x0 : Value} {x1 : Value} {x2 : Value} (h0 : one x0) (h1 : one x1) (h2 : one x2) : buildSliceA Try.prog 31 3 [(0, x0), (1, x1), (2, x2)] H = some (.slice (some ⟨H.n, 0, none⟩) 3 3, H.upd (H.n + 1) H.n (.cells ([x0, x1, x2]) 3 .ex)) := buildSlice_of und31 sz3 zr3 (by kernel_rfl) (by kernel_rfl) (by decide) (by decide) rfl (by simp [elts_one h0, elts_one h1, elts_one h2, elts_nil])
theorem bs31_1 {H : AHeap} {x0 : Value} (h0 : one x0) : buildSliceA Try.prog 31 1 [(0, x0)] H = some (.slice (some ⟨H.n, 0, none⟩) 1 1, H.upd (H.n + 1) H.n (.cells ([x0]) 3 .ex)) := buildSlice_of und31 sz3 zr3 (by kernel_rfl) (by kernel_rfl) (by decide) (by decide) rfl (by simp [elts_one h0, elts_nil])
theorem bs22_1 {H : AHeap} {x0 : List Value} (h0 : x0.length = 3) : buildSliceA Try.prog 22 1 [(0, .agg ⟨x0⟩)] H = some (.slice (some ⟨H.n, 0, none⟩) 1 1, H.upd (H.n + 1) H.n (.cells (x0) 78 .ex)) := buildSlice_of und22 sz78 zr78 (by kernel_rfl) (by kernel_rfl) (by decide) (by decide) rfl (by simp [elts_agg h0, elts_nil])
theorem bs23_1 {H : AHeap} {x0 : List Value} (h0 : x0.length = 4) : buildSliceA Try.prog 23 1 [(0, .agg ⟨x0⟩)] H = some (.slice (some ⟨H.n, 0, none⟩) 1 1, H.upd (H.n + 1) H.n (.cells (x0) 76 .ex)) := buildSlice_of und23 sz76 zr76 (by kernel_rfl) (by kernel_rfl) (by decide) (by decide) rfl (by simp [elts_agg h0, elts_nil])
theorem bs42_1 {H : AHeap} {x0 : List Value} (h0 : x0.length = 2) : buildSliceA Try.prog 42 1 [(0, .agg ⟨x0⟩)] H = some (.slice (some ⟨H.n, 0, none⟩) 1 1, H.upd (H.n + 1) H.n (.cells (x0) 28 .ex)) := buildSlice_of und42 sz28 zr28 (by kernel_rfl) (by kernel_rfl) (by decide) (by decide) rfl (by simp [elts_agg h0, elts_nil])
theorem bs89_1 {H : AHeap} {x0 : List Value} (h0 : x0.length = 122) : buildSliceA Try.prog 89 1 [(0, .agg ⟨x0⟩)] H = some (.slice (some ⟨H.n, 0, none⟩) 1 1, H.upd (H.n + 1) H.n (.cells (x0) 99 .ex)) := buildSlice_of und89 sz99 zr99 (by kernel_rfl) (by kernel_rfl) (by decide) (by decide) rfl (by simp [elts_agg h0, elts_nil])
theorem bs97_1 {H : AHeap} {x0 : List Value} (h0 : x0.length = 4) : buildSliceA Try.prog 97 1 [(0, .agg ⟨x0⟩)] H = some (.slice (some ⟨H.n, 0, none⟩) 1 1, H.upd (H.n + 1) H.n (.cells (x0) 101 .ex)) := buildSlice_of und97 sz101 zr101 (by kernel_rfl) (by kernel_rfl) (by decide) (by decide) rfl (by simp [elts_agg h0, elts_nil])
theorem ms31 {H : AHeap} {k k' : IntKind} {n m : Int} (h1 : 0 ≤ n) (h2 : n ≤ m) (h3 : m ≤ 1099511627776) (h4 : 8 * m ≤ 1099511627776) : makeSliceA Try.prog 31 (.int k n) (.int k' m) H = some (.slice (some ⟨H.n, 0, none⟩) n.toNat m.toNat, H.upd (H.n + 1) H.n (.cells (List.replicate m.toNat (.int .i64 0)) 3 .ex)) := (makeSlice_of und31 sz3 zr3 by3 (by kernel_rfl) (by kernel_rfl) (by decide) h1 h2 h3 h4).trans (by rw [show (.int .i64 0 : Value).cells.toList = [.int .i64 0] from rfl, zeros_one])
theorem ap24 {H : AHeap} {n m : Nat} {v x : Value} {c new : List Value} {g : Option Nat} (G : GS H 6 n v c g) (S : SR H 6 m x new) (hm : 0 < m) (h1 : n + m ≤ 1099511627776) (h2 : (n + m) * 48 ≤ 1099511627776) : appendOp Try.prog #[24, 24] [v, x] H = some (.slice (some ⟨H.n, 0, none⟩) (n + m) (n + m), H.upd (H.n + 1) H.n (.cells (c ++ new) 30 (.gr (g.getD H.n) 6 true))) := (appendOp_of und24 und24 sz30 S).trans (GS.push und24 sz30 by30 zr30 (by kernel_rfl) (by kernel_rfl) (by decide) G S.len hm h1 h2)
theorem ap22 {H : AHeap} {n m : Nat} {v x : Value} {c new : List Value} {g : Option Nat} (G : GS H 3 n v c g) (S : SR H 3 m x new) (hm : 0 < m) (h1 : n + m ≤ 1099511627776) (h2 : (n + m) * 24 ≤ 1099511627776) : appendOp Try.prog #[22, 22] [v, x] H = some (.slice (some ⟨H.n, 0, none⟩) (n + m) (n + m), H.upd (H.n + 1) H.n (.cells (c ++ new) 78 (.gr (g.getD H.n) 3 true))) := (appendOp_of und22 und22 sz78 S).trans (GS.push und22 sz78 by78 zr78 (by kernel_rfl) (by kernel_rfl) (by decide) G S.len hm h1 h2)
theorem ap23 {H : AHeap} {n m : Nat} {v x : Value} {c new : List Value} {g : Option Nat} (G : GS H 4 n v c g) (S : SR H 4 m x new) (hm : 0 < m) (h1 : n + m ≤ 1099511627776) (h2 : (n + m) * 32 ≤ 1099511627776) : appendOp Try.prog #[23, 23] [v, x] H = some (.slice (some ⟨H.n, 0, none⟩) (n + m) (n + m), H.upd (H.n + 1) H.n (.cells (c ++ new) 76 (.gr (g.getD H.n) 4 true))) := (appendOp_of und23 und23 sz76 S).trans (GS.push und23 sz76 by76 zr76 (by kernel_rfl) (by kernel_rfl) (by decide) G S.len hm h1 h2)
theorem ap31 {H : AHeap} {n m : Nat} {v x : Value} {c new : List Value} {g : Option Nat} (G : GS H 1 n v c g) (S : SR H 1 m x new) (hm : 0 < m) (h1 : n + m ≤ 1099511627776) (h2 : (n + m) * 8 ≤ 1099511627776) : appendOp Try.prog #[31, 31] [v, x] H = some (.slice (some ⟨H.n, 0, none⟩) (n + m) (n + m), H.upd (H.n + 1) H.n (.cells (c ++ new) 3 (.gr (g.getD H.n) 1 true))) := (appendOp_of und31 und31 sz3 S).trans (GS.push und31 sz3 by3 zr3 (by kernel_rfl) (by kernel_rfl) (by decide) G S.len hm h1 h2)
theorem ap42 {H : AHeap} {n m : Nat} {v x : Value} {c new : List Value} {g : Option Nat} (G : GS H 2 n v c g) (S : SR H 2 m x new) (hm : 0 < m) (h1 : n + m ≤ 1099511627776) (h2 : (n + m) * 16 ≤ 1099511627776) : appendOp Try.prog #[42, 42] [v, x] H = some (.slice (some ⟨H.n, 0, none⟩) (n + m) (n + m), H.upd (H.n + 1) H.n (.cells (c ++ new) 28 (.gr (g.getD H.n) 2 true))) := (appendOp_of und42 und42 sz28 S).trans (GS.push und42 sz28 by28 zr28 (by kernel_rfl) (by kernel_rfl) (by decide) G S.len hm h1 h2)
theorem ap89 {H : AHeap} {n m : Nat} {v x : Value} {c new : List Value} {g : Option Nat} (G : GS H 122 n v c g) (S : SR H 122 m x new) (hm : 0 < m) (h1 : n + m ≤ 1099511627776) (h2 : (n + m) * 992 ≤ 1099511627776) : appendOp Try.prog #[89, 89] [v, x] H = some (.slice (some ⟨H.n, 0, none⟩) (n + m) (n + m), H.upd (H.n + 1) H.n (.cells (c ++ new) 99 (.gr (g.getD H.n) 122 true))) := (appendOp_of und89 und89 sz99 S).trans (GS.push und89 sz99 by99 zr99 (by kernel_rfl) (by kernel_rfl) (by decide) G S.len hm h1 h2)
theorem ap97 {H : AHeap} {n m : Nat} {v x : Value} {c new : List Value} {g : Option Nat} (G : GS H 4 n v c g) (S : SR H 4 m x new) (hm : 0 < m) (h1 : n + m ≤ 1099511627776) (h2 : (n + m) * 32 ≤ 1099511627776) : appendOp Try.prog #[97, 97] [v, x] H = some (.slice (some ⟨H.n, 0, none⟩) (n + m) (n + m), H.upd (H.n + 1) H.n (.cells (c ++ new) 101 (.gr (g.getD H.n) 4 true))) := (appendOp_of und97 und97 sz101 S).trans (GS.push und97 sz101 by101 zr101 (by kernel_rfl) (by kernel_rfl) (by decide) G S.len hm h1 h2)
theorem pu24 {H : AHeap} {n m : Nat} {v x : Value} {c new : List Value} {g : Option Nat} {K : Value → AHeap → Prop} (G : GS H 6 n v c g) (S : SR H 6 m x new) (hm : 0 < m) (h1 : n + m ≤ 1099511627776) (h2 : (n + m) * 48 ≤ 1099511627776) (ht : Top H) (k : GS (H.upd (H.n + 1) H.n (.cells (c ++ new) 30 (.gr (g.getD H.n) 6 true))) 6 (n + m) (.slice (some ⟨H.n, 0, none⟩) (n + m) (n + m)) (c ++ new) (some (g.getD H.n)) → K (.slice (some ⟨H.n, 0, none⟩) (n + m) (n + m)) (H.upd (H.n + 1) H.n (.cells (c ++ new) 30 (.gr (g.getD H.n) 6 true)))) : oB (appendOp Try.prog #[24, 24] [v, x] H) K := by rw [ap24 G S hm h1 h2]; exact k (GS.pushed ht G S.len)
theorem pu22 {H : AHeap} {n m : Nat} {v x : Value} {c new : List Value} {g : Option Nat} {K : Value → AHeap → Prop} (G : GS H 3 n v c g) (S : SR H 3 m x new) (hm : 0 < m) (h1 : n + m ≤ 1099511627776) (h2 : (n + m) * 24 ≤ 1099511627776) (ht : Top H) (k : GS (H.upd (H.n + 1) H.n (.cells (c ++ new) 78 (.gr (g.getD H.n) 3 true))) 3 (n + m) (.slice (some ⟨H.n, 0, none⟩) (n + m) (n + m)) (c ++ new) (some (g.getD H.n)) → K (.slice (some ⟨H.n, 0, none⟩) (n + m) (n + m)) (H.upd (H.n + 1) H.n (.cells (c ++ new) 78 (.gr (g.getD H.n) 3 true)))) : oB (appendOp Try.prog #[22, 22] [v, x] H) K := by rw [ap22 G S hm h1 h2]; exact k (GS.pushed ht G S.len)
theorem pu23 {H : AHeap} {n m : Nat} {v x : Value} {c new : List Value} {g : Option Nat} {K : Value → AHeap → Prop} (G : GS H 4 n v c g) (S : SR H 4 m x new) (hm : 0 < m) (h1 : n + m ≤ 1099511627776) (h2 : (n + m) * 32 ≤ 1099511627776) (ht : Top H) (k : GS (H.upd (H.n + 1) H.n (.cells (c ++ new) 76 (.gr (g.getD H.n) 4 true))) 4 (n + m) (.slice (some ⟨H.n, 0, none⟩) (n + m) (n + m)) (c ++ new) (some (g.getD H.n)) → K (.slice (some ⟨H.n, 0, none⟩) (n + m) (n + m)) (H.upd (H.n + 1) H.n (.cells (c ++ new) 76 (.gr (g.getD H.n) 4 true)))) : oB (appendOp Try.prog #[23, 23] [v, x] H) K := by rw [ap23 G S hm h1 h2]; exact k (GS.pushed ht G S.len)
theorem pu31 {H : AHeap} {n m : Nat} {v x : Value} {c new : List Value} {g : Option Nat} {K : Value → AHeap → Prop} (G : GS H 1 n v c g) (S : SR H 1 m x new) (hm : 0 < m) (h1 : n + m ≤ 1099511627776) (h2 : (n + m) * 8 ≤ 1099511627776) (ht : Top H) (k : GS (H.upd (H.n + 1) H.n (.cells (c ++ new) 3 (.gr (g.getD H.n) 1 true))) 1 (n + m) (.slice (some ⟨H.n, 0, none⟩) (n + m) (n + m)) (c ++ new) (some (g.getD H.n)) → K (.slice (some ⟨H.n, 0, none⟩) (n + m) (n + m)) (H.upd (H.n + 1) H.n (.cells (c ++ new) 3 (.gr (g.getD H.n) 1 true)))) : oB (appendOp Try.prog #[31, 31] [v, x] H) K := by rw [ap31 G S hm h1 h2]; exact k (GS.pushed ht G S.len)
theorem pu42 {H : AHeap} {n m : Nat} {v x : Value} {c new : List Value} {g : Option Nat} {K : Value → AHeap → Prop} (G : GS H 2 n v c g) (S : SR H 2 m x new) (hm : 0 < m) (h1 : n + m ≤ 1099511627776) (h2 : (n + m) * 16 ≤ 1099511627776) (ht : Top H) (k : GS (H.upd (H.n + 1) H.n (.cells (c ++ new) 28 (.gr (g.getD H.n) 2 true))) 2 (n + m) (.slice (some ⟨H.n, 0, none⟩) (n + m) (n + m)) (c ++ new) (some (g.getD H.n)) → K (.slice (some ⟨H.n, 0, none⟩) (n + m) (n + m)) (H.upd (H.n + 1) H.n (.cells (c ++ new) 28 (.gr (g.getD H.n) 2 true)))) : oB (appendOp Try.prog #[42, 42] [v, x] H) K := by rw [ap42 G S hm h1 h2]; exact k (GS.pushed ht G S.len)
theorem pu89 {H : AHeap} {n m : Nat} {v x : Value} {c new : List Value} {g : Option Nat} {K : Value → AHeap → Prop} (G : GS H 122 n v c g) (S : SR H 122 m x new) (hm : 0 < m) (h1 : n + m ≤ 1099511627776) (h2 : (n + m) * 992 ≤ 1099511627776) (ht : Top H) (k : GS (H.upd (H.n + 1) H.n (.cells (c ++ new) 99 (.gr (g.getD H.n) 122 true))) 122 (n + m) (.slice (some ⟨H.n, 0, none⟩) (n + m) (n + m)) (c ++ new) (some (g.getD H.n)) → K (.slice (some ⟨H.n, 0, none⟩) (n + m) (n + m)) (H.upd (H.n + 1) H.n (.cells (c ++ new) 99 (.gr (g.getD H.n) 122 true)))) : oB (appendOp Try.prog #[89, 89] [v, x] H) K := by rw [ap89 G S hm h1 h2]; exact k (GS.pushed ht G S.len)
theorem pu97 {H : AHeap} {n m : Nat} {v x : Value} {c new : List Value} {g : Option Nat} {K : Value → AHeap → Prop} (G : GS H 4 n v c g) (S : SR H 4 m x new) (hm : 0 < m) (h1 : n + m ≤ 1099511627776) (h2 : (n + m) * 32 ≤ 1099511627776) (ht : Top H) (k : GS (H.upd (H.n + 1) H.n (.cells (c ++ new) 101 (.gr (g.getD H.n) 4 true))) 4 (n + m) (.slice (some ⟨H.n, 0, none⟩) (n + m) (n + m)) (c ++ new) (some (g.getD H.n)) → K (.slice (some ⟨H.n, 0, none⟩) (n + m) (n + m)) (H.upd (H.n + 1) H.n (.cells (c ++ new) 101 (.gr (g.getD H.n) 4 true)))) : oB (appendOp Try.prog #[97, 97] [v, x] H) K := by rw [ap97 G S hm h1 h2]; exact k (GS.pushed ht G S.len)
theorem cv3_83 {k : IntKind} {a : Int} : convA Try.prog 3 83 (.int k a) = some (.int .u64 (IntKind.wrap .u64 a)) := conv_int und3 und83
theorem cv83_3 {k : IntKind} {a : Int} : convA Try.prog 83 3 (.int k a) = some (.int .i64 (IntKind.wrap .i64 a)) := conv_int und83 und3
def tb13 := (And.intro (And.intro (And.intro @al26 (And.intro @bs31_2 @fa26_0)) (And.intro @fa28_0 (And.intro @fa28_1 @ia42))) (And.intro (And.intro @ld22 (And.intro @ld26 @ld3)) (And.intro @ln22 (And.intro @ln42 @st26))))
def tb16 := (And.intro (And.intro (And.intro @bd85_0 @cv3_83) (And.intro @fa85_0 @ia31)) (And.intro (And.intro @ld3 @ld83) (And.intro @ln31 @st83)))
def tb17 := (And.intro (And.intro (And.intro (And.intro (And.intro @al26 @al30) (And.intro @bd28_0_1 @bd30_0_1_2)) (And.intro (And.intro @bd76_0_1_2_3 @bd78_0_1_2) (And.intro @bs22_1 (And.intro @bs23_1 @bs24_1)))) (And.intro (And.intro (And.intro @bs31_1 @bs31_2) (And.intro @bs31_3 (And.intro @bs31_4 @fa26_0))) (And.intro (And.intro @fa26_1 @fa26_2) (And.intro @fa30_1 (And.intro @fa30_2 @fa30_3))))) (And.intro (And.intro (And.intro (And.intro @fa30_4 @ia31) (And.intro @ld22 @ld23)) (And.intro (And.intro @ld24 @ld26) (And.intro @ld3 (And.intro @ld30 @ln22)))) (And.intro (And.intro (And.intro @ln23 @ms31) (And.intro @st22 (And.intro @st23 @st24))) (And.intro (And.intro @st26 @st28) (And.intro @st3 (And.intro @st30 @st4))))))
def tb18 := (And.intro @ia31 (And.intro @ld3 @ln31))
def tb20 := (And.intro @cv3_83 @cv83_3)
def tb21 := (And.intro (And.intro (And.intro (And.intro @al101 @al91) (And.intro @al99 @bd28_0_1)) (And.intro (And.intro @bs42_1 @fa91_1) (And.intro @ia89 @ld101))) (And.intro (And.intro (And.intro @ld26 @ld89) (And.intro @ld91 @ld99)) (And.intro (And.intro @ln89 @st101) (And.intro @st91 @st99))))
def tb23 := (And.intro (And.intro (And.intro (And.intro @al91 @al99) (And.intro @fa26_0 @fa91_1)) (And.intro (And.intro @fa99_0 @fd101_1) (And.intro @fd101_2 (And.intro @ia89 @ia94)))) (And.intro (And.intro (And.intro @ia96 @ld22) (And.intro @ld26 (And.intro @ld3 @ld89))) (And.intro (And.intro @ld91 @ld99) (And.intro @ln22 (And.intro @st91 @st99)))))
def tb25 := (And.intro (And.intro (And.intro (And.intro @al30 (And.intro @al76 @al78)) (And.intro (And.intro @fa26_0 @fa26_1) (And.intro @fa26_2 @fa30_0))) (And.intro (And.intro (And.intro @fa76_0 @fa76_1) (And.intro @fa76_2 @fa76_3)) (And.intro (And.intro @fa78_0 @fa78_1) (And.intro @fa78_2 @ia22)))) (And.intro (And.intro (And.intro (And.intro @ia23 @ia24) (And.intro @ld22 @ld23)) (And.intro (And.intro @ld24 @ld26) (And.intro @ld3 @ld30))) (And.intro (And.intro (And.intro @ld76 @ld78) (And.intro @ln22 @ln23)) (And.intro (And.intro @ln24 @st30) (And.intro @st76 @st78)))))
def tb31 := @ev_tmp
def tb41 := @ev_tmp
def tb52 := (And.intro @fa85_0 (And.intro @ld83 @st83))
def tb53 := @ev_tmp
def tb54 := (And.intro (And.intro (And.intro @al91 (And.intro @al99 @bd91_0)) (And.intro (And.intro @bs89_1 @fa26_0) (And.intro @fa91_1 @ld22))) (And.intro (And.intro (And.intro @ld26 @ld89) (And.intro @ld91 @ld99)) (And.intro (And.intro @ln22 @st89) (And.intro @st91 @st99))))
def tb55 := (And.intro (And.intro (And.intro @al101 @fa101_0) (And.intro @fa99_1 @ia97)) (And.intro (And.intro @ld101 @ld3) (And.intro @ld97 (And.intro @ln97 @st101))))
def tb56 := (And.intro (And.intro @fa26_2 (And.intro @fa30_0 @fa91_0)) (And.intro (And.intro @ia24 @ld24) (And.intro @ld3 @ln24)))
def tb57 := (And.intro (And.intro @fa101_1 (And.intro @fa101_2 @fa99_0)) (And.intro @ia94 (And.intro @ia96 @ld3)))
def tb58 := (And.intro (And.intro @fa101_1 (And.intro @fa101_2 @fa99_0)) (And.intro @ia94 (And.intro @ia96 @ld3)))
def tb65 := @ev_tmp
def tb66 := (And.intro (And.intro (And.intro @fa26_0 (And.intro @fa26_1 @fa28_0)) (And.intro (And.intro @fa28_1 @fa30_0) (And.intro @fa30_1 @fa30_2))) (And.intro (And.intro (And.intro @fa30_3 @fa30_4) (And.intro @ld22 @ld23)) (And.intro (And.intro @ld3 @ld4) (And.intro @ln22 @ln23))))
def tb83 := (And.intro (And.intro (And.intro (And.intro (And.intro @al101 @al154) (And.intro @al3 @al30)) (And.intro (And.intro @al4 @al99) (And.intro @bd101_0 @bd99_0_1))) (And.intro (And.intro (And.intro @bs97_1 @fa101_0) (And.intro @fa101_1 @fa101_2)) (And.intro (And.intro @fa101_3 @fa28_0) (And.intro @fa28_1 (And.intro @fa30_2 @fa30_3))))) (And.intro (And.intro (And.intro (And.intro @fa30_4 @fa99_1) (And.intro @ia97 @ld101)) (And.intro (And.intro @ld154 @ld26) (And.intro @ld3 (And.intro @ld4 @ld97)))) (And.intro (And.intro (And.intro @ld99 @ln97) (And.intro @st101 @st154)) (And.intro (And.intro @st3 @st30) (And.intro @st4 (And.intro @st97 @st99))))))
def tb92 := (And.intro (And.intro @al96 (And.intro @ia94 @ia96)) (And.intro (And.intro @ld3 @ld96) (And.intro @st3 @st96)))
def tb100 := (And.intro (And.intro @al96 (And.intro @ia94 @ia96)) (And.intro @ld96 (And.intro @st3 @st96)))
def tb101 := (And.intro (And.intro @fa99_0 @ld4) (And.intro @ld96 (And.intro @st4 @st96)))
def tb102 := @ev_tmp
def tb110 := (And.intro (And.intro (And.intro @al30 @fa26_2) (And.intro @fa30_1 @ia24)) (And.intro (And.intro @ld24 @ld3) (And.intro @ld30 (And.intro @ln24 @st30))))
end Go.Proofs.Swa

set_option linter.unusedVariables false
set_option linter.unusedSimpArgs false
namespace Go.Proofs.Swa
open Go
structure Spo where
  X : Int
  Y : Int
  Area : Int
  deriving DecidableEq, Inhabited
structure Srt where
  High : Int
  Dense : Int
  Fire : Int
  Age : Int
  deriving DecidableEq, Inhabited
structure Act where
  Hour : Int
  Spot : Int
  Kind : Int
  Min : Int
  Max : Int
  Take : Bool
  deriving DecidableEq, Inhabited
structure Gnd where
  Spots : List Spo
  Sorts : List Srt
  Acts : List Act
  deriving DecidableEq, Inhabited
abbrev iv (n : Int) : Value := .int .i64 n
def eSpo (s : Spo) : List Value := [iv s.X, iv s.Y, iv s.Area]
def eSrt (s : Srt) : List Value := [iv s.High, iv s.Dense, iv s.Fire, iv s.Age]
def eAct (a : Act) : List Value := [iv a.Hour, iv a.Spot, iv a.Kind, iv a.Min, iv a.Max, .bool a.Take]
theorem eSpo_len (s : Spo) : (eSpo s).length = 3 := rfl
theorem eSrt_len (s : Srt) : (eSrt s).length = 4 := rfl
theorem eAct_len (s : Act) : (eAct s).length = 6 := rfl
structure RG (H : AHeap) (a b c : Value) (g : Gnd) : Prop where
  p : SR H 3 g.Spots.length a (g.Spots.flatMap eSpo)
  q : SR H 4 g.Sorts.length b (g.Sorts.flatMap eSrt)
  r : SR H 6 g.Acts.length c (g.Acts.flatMap eAct)
theorem RG.fr {N : Nat} {A B : AHeap} (hF : Fr N [] A B) {a b c : Value} {g : Gnd} (h : RG A a b c g) : RG B a b c g := ⟨h.p.fr0 hF, h.q.fr0 hF, h.r.fr0 hF⟩
theorem RG.one {H : AHeap} {a b c : Value} {g : Gnd} (h : RG H a b c g) : Swa.one a ∧ Swa.one b ∧ Swa.one c := ⟨h.p.one, h.q.one, h.r.one⟩
def w64 (x : Int) : Int := IntKind.i64.wrap x
end Go.Proofs.Swa

set_option linter.unusedVariables false
set_option linter.unusedSimpArgs false
namespace Go.Proofs.Swa
open Go
def ints (l : List Int) : List Value := l.map (.int .i64 ·)
theorem ints_len (l : List Int) : (ints l).length = l.length := by simp [ints]
theorem ints_at {l : List Int} {i : Nat} (h : i < l.length) : (ints l)[i]? = some (iv (l.getD i 0)) := by
  simp [ints, h]
theorem ints_set (l : List Int) (i : Nat) (x : Int) : (ints l).set i (iv x) = ints (l.set i x) := by
  simp [ints, List.map_set]
def mat (s : List Int) (i j : Nat) : Int := s.getD (i * 11 + j) 0
def far : Int := 1099511627776
def kIn (s : List Int) (a b : Nat) (m : Int) (i : Nat) (out : List Int) (k : Nat) : List Int :=
  if mat s i a < far ∧ mat s b k < far then out.set (i * 11 + k) (min (mat out i k) (w64 (w64 (mat s i a + m) + mat s b k))) else out
def kRow (s : List Int) (a b : Nat) (m : Int) (i : Nat) (out : List Int) (n : Nat) : List Int := (List.range n).foldl (kIn s a b m i) out
def kAll (s : List Int) (a b : Nat) (m : Int) (n : Nat) : List Int := (List.range n).foldl (fun out i => kRow s a b m i out 11) s
def know (s : List Int) (a b : Nat) (m : Int) : List Int × Bool :=
  if w64 (mat s b a + m) < 0 then (s, false) else if mat s a b ≤ m then (s, true) else (kAll s a b m 11, true)
theorem foldl_range_succ {α : Type} (f : α → Nat → α) (x : α) (n : Nat) : (List.range (n + 1)).foldl f x = f ((List.range n).foldl f x) n := by
  rw [List.range_succ, List.foldl_append]; rfl
theorem kIn_len (s : List Int) (a b : Nat) (m : Int) (i : Nat) (out : List Int) (k : Nat) : (kIn s a b m i out k).length = out.length := by unfold kIn; split <;> simp
theorem kRow_succ (s : List Int) (a b : Nat) (m : Int) (i : Nat) (out : List Int) (n : Nat) : kRow s a b m i out (n + 1) = kIn s a b m i (kRow s a b m i out n) n := foldl_range_succ _ _ _
theorem kAll_succ (s : List Int) (a b : Nat) (m : Int) (n : Nat) : kAll s a b m (n + 1) = kRow s a b m n (kAll s a b m n) 11 := foldl_range_succ _ _ _
theorem kRow_len (s : List Int) (a b : Nat) (m : Int) (i : Nat) (out : List Int) (n : Nat) : (kRow s a b m i out n).length = out.length := by
  induction n with
  | zero => rfl
  | succ n ih => rw [kRow_succ, kIn_len, ih]
theorem kAll_len (s : List Int) (a b : Nat) (m : Int) (n : Nat) : (kAll s a b m n).length = s.length := by
  induction n with
  | zero => rfl
  | succ n ih => rw [kAll_succ, kRow_len, ih]
theorem know_len {s : List Int} {a b : Nat} {m : Int} : (know s a b m).1.length = s.length := by
  unfold know
  split
  · rfl
  · split
    · rfl
    · exact kAll_len ..
def Sums := { l : List Int // l.length = 121 }
instance : Inhabited Sums := ⟨⟨List.replicate 121 0, by simp⟩⟩
instance : DecidableEq Sums := fun a b => decidable_of_iff (a.1 = b.1) ⟨Subtype.ext, fun h => h ▸ rfl⟩
def Sums.know (s : Sums) (a b : Nat) (m : Int) : Sums × Bool := (⟨(Swa.know s.1 a b m).1, know_len.trans s.2⟩, (Swa.know s.1 a b m).2)
def Sums.mat (s : Sums) (i j : Nat) : Int := Swa.mat s.1 i j
theorem sums_len (s : Sums) : (ints s.1).length = 121 := by rw [ints_len, s.2]
theorem at121 {s : Sums} {v : Value} : (ints s.1 ++ [v])[121]? = some v := at_pre (sums_len s)
theorem set121 {s : Sums} {v w : Value} : (ints s.1 ++ [v]).set 121 w = ints s.1 ++ [w] := set_pre (sums_len s)
theorem len122 {s : Sums} {v : Value} : (ints s.1 ++ [v]).length = 122 := by rw [List.length_append, sums_len]; rfl
theorem st121 {H : AHeap} {b : Nat} {s : Sums} {v : Value} {T : TypeId} {a : Option Addr} {q r : Nat} : stG H b 121 1 (.slice a q r) (.cells (ints s.1 ++ [v]) T .ex) = some (H.upd H.n b (.cells (ints s.1 ++ [.slice a q r]) T .ex)) := by
  rw [stG_slice (by rw [len122]; omega), set121]
def bIn (i : Nat) (out : List Int) (k : Nat) : List Int := if i ≠ k then out.set (i * 11 + k) far else out
def bRow (i : Nat) (out : List Int) (n : Nat) : List Int := (List.range n).foldl (bIn i) out
def bAll (n : Nat) : List Int := (List.range n).foldl (fun out i => bRow i out 11) (List.replicate 121 0)
theorem bRow_succ (i : Nat) (out : List Int) (n : Nat) : bRow i out (n + 1) = bIn i (bRow i out n) n := foldl_range_succ _ _ _
theorem bAll_succ (n : Nat) : bAll (n + 1) = bRow n (bAll n) 11 := foldl_range_succ _ _ _
theorem bIn_len (i : Nat) (out : List Int) (k : Nat) : (bIn i out k).length = out.length := by unfold bIn; split <;> simp
theorem bRow_len (i : Nat) (out : List Int) (n : Nat) : (bRow i out n).length = out.length := by
  induction n with
  | zero => rfl
  | succ n ih => rw [bRow_succ, bIn_len, ih]
theorem bAll_len (n : Nat) : (bAll n).length = 121 := by
  induction n with
  | zero => simp [bAll]
  | succ n ih => rw [bAll_succ, bRow_len, ih]
def blank : Sums := ⟨bAll 11, bAll_len 11⟩
structure Mom where
  act : Int
  tips : Nat
  takes : Nat
  kind : Int
  deriving DecidableEq, Inhabited
def eMom (m : Mom) : List Value := [iv m.act, iv m.tips, iv m.takes, iv m.kind]
theorem eMom_len (m : Mom) : (eMom m).length = 4 := rfl
structure Hp where
  s : Sums
  m : List Mom
  deriving DecidableEq, Inhabited
def eHp (p : Hp × Value) : List Value := ints p.1.s.1 ++ [p.2]
theorem eHp_len (p : Hp × Value) : (eHp p).length = 122 := by simp [eHp, ints_len, p.1.s.2]
def RHs (H : AHeap) (v : Value) (l : List (Hp × Value)) : Prop := SR H 122 l.length v (l.flatMap eHp) ∧ ∀ i, i < l.length → SR H 4 (l.getD i default).1.m.length (l.getD i default).2 ((l.getD i default).1.m.flatMap eMom)
theorem RHs.fr {N : Nat} {A B : AHeap} (hF : Fr N [] A B) {v : Value} {l : List (Hp × Value)} (h : RHs A v l) : RHs B v l := ⟨h.1.fr0 hF, fun i hi => (h.2 i hi).fr0 hF⟩
def beforeL (act : Int) : Mom → List Mom → Mom
  | out, [] => out
  | out, m :: l => beforeL act (if m.act < act then m else out) l
def Hp.before (h : Hp) (act : Int) : Mom := beforeL act (h.m.getD 0 default) h.m
def Hp.most (h : Hp) (m : Mom) : Int := h.s.mat m.takes m.tips
def Hp.least (h : Hp) (m : Mom) : Int := w64 (0 - h.s.mat m.tips m.takes)
def untilL (hour : Int) : List Act → Nat
  | [] => 0
  | a :: l => if a.Hour ≤ hour then untilL hour l + 1 else 0
structure Pst where
  s : Sums
  ok : Bool
  next : Nat
  m : Mom
  ms : List Mom
  deriving Inhabited
def knowIf (s : Sums) (ok : Bool) (a b : Nat) (m : Int) : Sums × Bool := if ok then s.know a b m else (s, ok)
def Pst.tk (p : Pst) (a : Act) : Sums × Bool :=
  let x := knowIf p.s p.ok p.m.takes (p.next + 1) a.Max
  let y := knowIf x.1 x.2 (p.next + 1) p.m.takes (w64 (0 - a.Min))
  knowIf y.1 y.2 p.m.tips (p.next + 1) 0
def Pst.tp (p : Pst) (a : Act) : Sums × Bool :=
  let x := knowIf p.s p.ok p.m.tips (p.next + 1) a.Max
  knowIf x.1 x.2 (p.next + 1) p.m.tips (w64 (0 - a.Min))
def Pst.step (p : Pst) (i : Nat) (a : Act) : Pst :=
  if a.Take = true then ⟨(p.tk a).1, (p.tk a).2, p.next + 1, ⟨i, p.m.tips, p.next + 1, p.m.kind⟩, p.ms ++ [⟨i, p.m.tips, p.next + 1, p.m.kind⟩]⟩
  else ⟨(p.tp a).1, (p.tp a).2, p.next + 1, ⟨i, p.next + 1, p.m.takes, a.Kind⟩, p.ms ++ [⟨i, p.next + 1, p.m.takes, a.Kind⟩]⟩
theorem Pst.step_take {p : Pst} {i : Nat} {a : Act} (h : a.Take = true) : p.step i a = ⟨(p.tk a).1, (p.tk a).2, p.next + 1, ⟨i, p.m.tips, p.next + 1, p.m.kind⟩, p.ms ++ [⟨i, p.m.tips, p.next + 1, p.m.kind⟩]⟩ := if_pos h
theorem Pst.step_tip {p : Pst} {i : Nat} {a : Act} (h : ¬ a.Take = true) : p.step i a = ⟨(p.tp a).1, (p.tp a).2, p.next + 1, ⟨i, p.next + 1, p.m.takes, a.Kind⟩, p.ms ++ [⟨i, p.next + 1, p.m.takes, a.Kind⟩]⟩ := if_neg h
def Pst.run (spot : Int) : Nat → List Act → Pst → Pst
  | _, [], p => p
  | i, a :: l, p => Pst.run spot (i + 1) l (if a.Spot = spot then p.step i a else p)
def mom0 : Mom := ⟨-1, 0, 0, 0⟩
def pst0 : Pst := ⟨blank, true, 0, mom0, [mom0]⟩
def pile (g : Gnd) (spot : Int) : Hp × Bool := let p := Pst.run spot 0 g.Acts pst0; (⟨p.s, p.ms⟩, p.ok)
def knownGo (g : Gnd) (i : Nat) : Nat → List Hp → List Hp × Int
  | 0, acc => (acc, 0)
  | n + 1, acc => if (pile g i).2 = true then knownGo g (i + 1) n (acc ++ [(pile g i).1]) else (acc, 9)
def known (g : Gnd) : List Hp × Int := knownGo g 0 g.Spots.length []
end Go.Proofs.Swa

set_option linter.unusedVariables false
set_option linter.unusedSimpArgs false
namespace Go.Proofs.Swa
open Go
def many (a b : Int) : Int := if a = 0 then 7 else if b < a then 6 else 0
def inB (a b c : Int) : Bool := decide (b ≤ a ∧ a ≤ c)
def checkAct (g : Gnd) (last : Int) (a : Act) : Int :=
  if !inB a.Hour 0 72 then 1 else if a.Hour < last then 5 else if !inB a.Spot 0 (w64 (g.Spots.length - 1)) || !inB a.Kind 0 (w64 (g.Sorts.length - 1)) then 3
  else if a.Take && a.Kind ≠ 0 then 2 else if !inB a.Min 1 1000000 || !inB a.Max 1 1000000 then 1 else if a.Max < a.Min then 5 else 0
def okSpo (s : Spo) : Bool := inB s.X 0 1000 && inB s.Y 0 1000 && inB s.Area 1 1000
def okSrt (s : Srt) : Bool := inB s.High 1 1000 && inB s.Dense 1 8000 && inB s.Fire 0 100 && inB s.Age 0 72
def checkActs (g : Gnd) : Int → List Act → Int
  | _, [] => 0
  | last, a :: l => if checkAct g last a ≠ 0 then checkAct g last a else checkActs g a.Hour l
def check3 (g : Gnd) : Int := if 10 < g.Acts.length then 6 else checkActs g 0 g.Acts
def check2 (g : Gnd) : Int := if many g.Sorts.length 4 ≠ 0 then many g.Sorts.length 4 else if g.Sorts.all okSrt then check3 g else 1
def check (g : Gnd) : Int := if many g.Spots.length 4 ≠ 0 then many g.Spots.length 4 else if g.Spots.all okSpo then check2 g else 1
theorem many_ok {a b : Int} (h : many a b = 0) : a ≠ 0 ∧ a ≤ b := by
  unfold many at h
  split at h
  · omega
  · split at h <;> omega
structure Ok (g : Gnd) : Prop where
  spots : 0 < g.Spots.length ∧ g.Spots.length ≤ 4
  spot : ∀ s, s ∈ g.Spots → okSpo s = true
  sorts : 0 < g.Sorts.length ∧ g.Sorts.length ≤ 4
  sort : ∀ s, s ∈ g.Sorts → okSrt s = true
  acts : g.Acts.length ≤ 10
  act : checkActs g 0 g.Acts = 0
theorem check_ok {g : Gnd} (h : check g = 0) : Ok g := by
  unfold check at h
  split at h
  · rename_i h1; exact absurd h h1
  · rename_i h1
    split at h
    · rename_i h2
      unfold check2 at h
      split at h
      · rename_i h3; exact absurd h h3
      · rename_i h3
        split at h
        · rename_i h4
          unfold check3 at h
          split at h
          · omega
          · rename_i h5
            have q1 := many_ok (Decidable.not_not.1 h1)
            have q2 := many_ok (Decidable.not_not.1 h3)
            exact ⟨by omega, fun s hs => List.all_eq_true.1 h2 s hs, by omega, fun s hs => List.all_eq_true.1 h4 s hs, by omega, h⟩
        · omega
    · omega
structure Few (h : Hp) : Prop where
  pos : 0 < h.m.length
  len : h.m.length ≤ 11
  tips : ∀ m, m ∈ h.m → m.tips < 11 ∧ m.takes < 11
structure Pst.Inv (p : Pst) (i : Nat) : Prop where
  next : p.next ≤ i
  m : p.m.tips ≤ p.next ∧ p.m.takes ≤ p.next
  len : 0 < p.ms.length ∧ p.ms.length ≤ i + 1
  all : ∀ m, m ∈ p.ms → m.tips ≤ i ∧ m.takes ≤ i
theorem Pst.Inv.step {p : Pst} {i : Nat} (h : p.Inv i) (a : Act) : (p.step i a).Inv (i + 1) := by
  have h1 := h.next
  have h2 := h.m
  have h3 := h.len
  unfold Pst.step
  split
  · refine ⟨by dsimp only; omega, by dsimp only; omega, by simp; omega, fun m hm => ?_⟩
    rcases List.mem_append.1 hm with hm | hm
    · have := h.all m hm; omega
    · have : m = _ := List.mem_singleton.1 hm
      subst this; dsimp only; omega
  · refine ⟨by dsimp only; omega, by dsimp only; omega, by simp; omega, fun m hm => ?_⟩
    rcases List.mem_append.1 hm with hm | hm
    · have := h.all m hm; omega
    · have : m = _ := List.mem_singleton.1 hm
      subst this; dsimp only; omega
theorem Pst.Inv.skip {p : Pst} {i : Nat} (h : p.Inv i) : p.Inv (i + 1) :=
  ⟨by have := h.next; omega, h.m, by have := h.len; omega, fun m hm => by have := h.all m hm; omega⟩
theorem Pst.Inv.run (spot : Int) : ∀ (l : List Act) (i : Nat) (p : Pst), p.Inv i → (Pst.run spot i l p).Inv (i + l.length)
  | [], i, p, h => h
  | a :: l, i, p, h => by
    rw [Pst.run, List.length_cons, show i + (l.length + 1) = i + 1 + l.length by omega]
    split
    · exact Pst.Inv.run spot l (i + 1) _ (h.step a)
    · exact Pst.Inv.run spot l (i + 1) _ h.skip
theorem pile_few {g : Gnd} (hl : g.Acts.length ≤ 10) (spot : Int) : Few (pile g spot).1 := by
  have h : Pst.Inv pst0 0 := ⟨Nat.le_refl _, ⟨Nat.le_refl _, Nat.le_refl _⟩, ⟨Nat.lt_succ_self _, Nat.le_refl _⟩, fun m hm => by
    have : m = mom0 := List.mem_singleton.1 hm
    subst this; exact ⟨Nat.le_refl _, Nat.le_refl _⟩⟩
  have := Pst.Inv.run spot g.Acts 0 pst0 h
  rw [Nat.zero_add] at this
  exact ⟨this.len.1, by have := this.len.2; show (Pst.run spot 0 g.Acts pst0).ms.length ≤ 11; omega, fun m hm => by have := this.all m hm; omega⟩
theorem knownGo_few {g : Gnd} (hl : g.Acts.length ≤ 10) : ∀ (n i : Nat) (acc : List Hp), (∀ h, h ∈ acc → Few h) → ∀ h, h ∈ (knownGo g i n acc).1 → Few h
  | 0, i, acc, ha => ha
  | n + 1, i, acc, ha => by
    rw [knownGo]
    split
    · refine knownGo_few hl n (i + 1) _ fun h hm => ?_
      rcases List.mem_append.1 hm with hm | hm
      · exact ha h hm
      · rw [List.mem_singleton.1 hm]; exact pile_few hl _
    · exact ha
theorem known_few {g : Gnd} (hl : g.Acts.length ≤ 10) : ∀ h, h ∈ (known g).1 → Few h := knownGo_few hl _ _ _ (by simp)
theorem knownGo_len {g : Gnd} : ∀ (n i : Nat) (acc : List Hp), (knownGo g i n acc).1.length ≤ acc.length + n
  | 0, i, acc => Nat.le_refl _
  | n + 1, i, acc => by
    rw [knownGo]
    split
    · have := knownGo_len (g := g) n (i + 1) (acc ++ [(pile g i).1])
      rw [List.length_append, List.length_singleton] at this
      omega
    · show acc.length ≤ _; omega
theorem known_len {g : Gnd} : (known g).1.length ≤ g.Spots.length := by
  have := knownGo_len (g := g) g.Spots.length 0 []
  rw [List.length_nil, Nat.zero_add] at this
  exact this
theorem beforeL_mem {act : Int} : ∀ (l : List Mom) (out : Mom), beforeL act out l = out ∨ beforeL act out l ∈ l
  | [], out => .inl rfl
  | m :: l, out => by
    rw [beforeL]
    rcases beforeL_mem l (if m.act < act then m else out) with h | h
    · rw [h]
      split
      · exact .inr (List.mem_cons_self ..)
      · exact .inl rfl
    · exact .inr (List.mem_cons_of_mem _ h)
theorem Few.before {h : Hp} (hf : Few h) (act : Int) : (h.before act).tips < 11 ∧ (h.before act).takes < 11 := by
  refine hf.tips _ ?_
  unfold Hp.before
  have h0 : h.m.getD 0 default ∈ h.m := by
    have := hf.pos
    simp [List.getD, List.getElem?_eq_getElem this]
  rcases beforeL_mem (act := act) h.m (h.m.getD 0 default) with e | e
  · rw [e]; exact h0
  · exact e
structure Rng where
  Min : Int
  Max : Int
  deriving DecidableEq, Inhabited
def eRng (r : Rng) : List Value := [iv r.Min, iv r.Max]
theorem eRng_len (r : Rng) : (eRng r).length = 2 := rfl
def massAt (g : Gnd) (hour : Int) (h : Hp) : Rng := ⟨h.least (h.before (untilL hour g.Acts)), h.most (h.before (untilL hour g.Acts))⟩
def masses (g : Gnd) (hour : Int) : List Rng × Int :=
  if check g ≠ 0 then ([], check g) else if inB hour 0 72 = true then if (known g).2 ≠ 0 then ([], (known g).2) else ((known g).1.map (massAt g hour), 0) else ([], 1)
def older (g : Gnd) (spot hour age : Int) : Int × Int :=
  if check g ≠ 0 then (0, check g)
  else if inB spot 0 (w64 (g.Spots.length - 1)) = true then
    if inB hour 0 72 = true ∧ inB age 0 72 = true then
      if (known g).2 ≠ 0 then (0, (known g).2)
      else
        let h := (known g).1.getD spot.toNat default
        let old := (h.before (untilL (w64 (w64 (hour - age) - 1)) g.Acts)).tips
        let takes := (h.before (untilL hour g.Acts)).takes
        if h.s.mat old takes < 0 then (1, 0) else if h.s.mat takes old ≤ 0 then (2, 0) else (3, 0)
    else (0, 1)
  else (0, 3)
end Go.Proofs.Swa

set_option linter.unusedVariables false
set_option linter.unusedSimpArgs false
namespace Go.Proofs.Swa
open Go
abbrev uv (n : Int) : Value := .int .u64 n
def fS0 (x : Int) : Int := if x = 0 then 1 else x
def fS1 (x : Int) : Int := xorI .u64 x (shlI .u64 x 13)
def fS2 (x : Int) : Int := xorI .u64 x (shrI .u64 x 7)
def fS3 (x : Int) : Int := xorI .u64 x (shlI .u64 x 17)
def fSt (x : Int) : Int := fS3 (fS2 (fS1 (fS0 x)))
def fOut (x : Int) : Int := IntKind.u64.wrap (fSt x * 2685821657736338717)
def below (x n : Int) : Int := if n < 2 then 0 else IntKind.i64.wrap ((shrI .u64 (fOut x) 8).tmod n)
def belowS (x n : Int) : Int := if n < 2 then x else fSt x
theorem u64_id {n : Int} (h0 : 0 ≤ n) (h1 : n < 18446744073709551616) : IntKind.u64.wrap n = n := by
  show (if (false && decide (n % (2 ^ 64 : Int) ≥ (2 ^ 63 : Int))) = true then n % (2 ^ 64 : Int) - (2 ^ 64 : Int) else n % (2 ^ 64 : Int)) = n
  simp only [Bool.false_and, Bool.false_eq_true, if_false]
  omega
theorem u64_lt (n : Int) : 0 ≤ IntKind.u64.wrap n ∧ IntKind.u64.wrap n < 18446744073709551616 := by
  show 0 ≤ (if (false && decide (n % (2 ^ 64 : Int) ≥ (2 ^ 63 : Int))) = true then n % (2 ^ 64 : Int) - (2 ^ 64 : Int) else n % (2 ^ 64 : Int)) ∧ (if (false && decide (n % (2 ^ 64 : Int) ≥ (2 ^ 63 : Int))) = true then n % (2 ^ 64 : Int) - (2 ^ 64 : Int) else n % (2 ^ 64 : Int)) < _
  simp only [Bool.false_and, Bool.false_eq_true, if_false]
  omega
theorem below_spec (x n : Int) (hn : n < 9223372036854775808) : 0 ≤ below x n ∧ (0 < n → below x n < n) ∧ (n ≤ 0 → below x n = 0) := by
  unfold below
  split
  · refine ⟨by omega, fun _ => by omega, fun _ => rfl⟩
  · have h1 := u64_lt (fSt x * 2685821657736338717)
    have h2 : 0 ≤ shrI .u64 (fOut x) 8 := by
      show 0 ≤ (fOut x).fdiv 256
      exact Int.fdiv_nonneg h1.1 (by omega)
    have h3 := Int.tmod_lt_of_pos (shrI .u64 (fOut x) 8) (show (0 : Int) < n by omega)
    have h4 := Int.tmod_nonneg n h2
    rw [wrap64 (by omega) (by omega)]
    exact ⟨h4, fun _ => h3, fun _ => by omega⟩
def btwArg (lo hi : Int) : Int := w64 (w64 (hi - lo) + 1)
def btw (x lo hi : Int) : Int := w64 (lo + below x (btwArg lo hi))
def btwS (x lo hi : Int) : Int := belowS x (btwArg lo hi)
theorem btwArg_lt (lo hi : Int) : btwArg lo hi < 9223372036854775808 := w64_lt _
def either (x : Int) (l : List Int) : Int := if l.length = 0 then 0 else l.getD (below x l.length).toNat 0
def eitherS (x : Int) (l : List Int) : Int := if l.length = 0 then x else belowS x l.length
def fMix (st n : Int) : Int := fSt (xorI .u64 st (IntKind.u64.wrap (IntKind.u64.wrap n * 15485907386658061715)))
def feedOf (l : List Int) : Int := l.foldl fMix 88172645463325252
end Go.Proofs.Swa

set_option linter.unusedVariables false
set_option linter.unusedSimpArgs false
namespace Go.Proofs.Swa
open Go
def mkSpo (x : Int) : Spo × Int := (⟨below x 8, below (belowS x 8) 4, btw (belowS (belowS x 8) 4) 1 4⟩, btwS (belowS (belowS x 8) 4) 1 4)
def goSpo : Nat → Int → List Spo → List Spo × Int
  | 0, x, l => (l, x)
  | n + 1, x, l => goSpo n (mkSpo x).2 (l ++ [(mkSpo x).1])
def mkSrt (mass hours x : Int) : Srt × Int :=
  let h := [100, min 1000 (w64 (btw x 1 100 * max 1 (w64 (mass.tdiv 20))))]
  let x1 := btwS x 1 100
  let x2 := eitherS x1 h
  let x3 := eitherS x2 [1, 2, 50, 100]
  let x4 := belowS x3 6
  let x5 := eitherS x4 [0, below x3 6]
  let x6 := belowS x5 (w64 (hours + 1))
  (⟨either x1 h, either x2 [1, 2, 50, 100], either x4 [0, below x3 6], either x6 [72, below x5 (w64 (hours + 1))]⟩, eitherS x6 [72, below x5 (w64 (hours + 1))])
def goSrt (mass hours : Int) : Nat → Int → List Srt → List Srt × Int
  | 0, x, l => (l, x)
  | n + 1, x, l => goSrt mass hours n (mkSrt mass hours x).2 (l ++ [(mkSrt mass hours x).1])
structure Gst where
  x : Int
  hour : Int
  lies : List Int
  acts : List Act
  truth : List Int
def spread (mass n x : Int) : Rng × Int :=
  let m := max 2 (w64 (mass.tdiv 3))
  let x1 := belowS x m
  let x2 := eitherS x1 [0, below x m]
  let x3 := belowS x2 m
  (⟨max 1 (w64 (n - either x1 [0, below x m])), w64 (n + either x3 [0, below x2 m])⟩, eitherS x3 [0, below x2 m])
def Gst.step (spots sorts : Nat) (mass hours : Int) (s : Gst) : Gst :=
  let x1 := belowS s.x 4
  let x2 := eitherS x1 [0, 1, below s.x 4]
  let hour := min 72 (min hours (w64 (s.hour + either x1 [0, 1, below s.x 4])))
  let spot := below x2 spots
  let x3 := belowS x2 spots
  let kind := below x3 sorts
  let x4 := belowS x3 sorts
  let n := btw x4 1 mass
  let x5 := btwS x4 1 mass
  let lie := s.lies.getD spot.toNat 0
  let x6 := if 0 < lie then belowS x5 5 else x5
  if 0 < lie ∧ below x5 5 < 2 then
    let x7 := btwS x6 1 lie
    let l := [lie, btw x6 1 lie]
    let k := either x7 l
    let r := spread mass k (eitherS x7 l)
    ⟨r.2, hour, s.lies.set spot.toNat (w64 (lie - k)), s.acts ++ [⟨hour, spot, 0, r.1.Min, r.1.Max, true⟩], s.truth ++ [k]⟩
  else
    let r := spread mass n x6
    ⟨r.2, hour, s.lies.set spot.toNat (w64 (lie + n)), s.acts ++ [⟨hour, spot, kind, r.1.Min, r.1.Max, false⟩], s.truth ++ [n]⟩
def Gst.run (spots sorts : Nat) (mass hours : Int) : Nat → Gst → Gst
  | 0, s => s
  | n + 1, s => Gst.run spots sorts mass hours n (s.step spots sorts mass hours)
structure Made2 where
  g : Gnd
  truth : List Int
  x : Int
def groundOf (x spots sorts acts mass hours : Int) : Made2 :=
  let a := goSpo (btw x 1 spots).toNat (btwS x 1 spots) []
  let b := goSrt mass hours (btw a.2 1 sorts).toNat (btwS a.2 1 sorts) []
  let s := Gst.run a.1.length b.1.length mass hours (below b.2 (w64 (acts + 1))).toNat ⟨belowS b.2 (w64 (acts + 1)), 0, List.replicate a.1.length 0, [], []⟩
  ⟨⟨a.1, b.1, s.acts⟩, s.truth, s.x⟩
theorem btw_spec {x lo hi : Int} (h1 : -1000000000 ≤ lo) (h2 : lo ≤ hi) (h3 : hi ≤ 1000000000) : lo ≤ btw x lo hi ∧ btw x lo hi ≤ hi := by
  have e1 : btwArg lo hi = hi - lo + 1 := by
    unfold btwArg w64
    rw [wrap64 (x := hi - lo) (by omega) (by omega), wrap64 (by omega) (by omega)]
  have h := below_spec x (btwArg lo hi) (btwArg_lt _ _)
  rw [e1] at h
  have h4 := h.2.1 (by omega)
  unfold btw w64
  rw [e1, wrap64 (by omega) (by omega)]
  omega
end Go.Proofs.Swa

set_option linter.unusedVariables false
set_option linter.unusedSimpArgs false
namespace Go.Proofs.Swa
open Go
theorem getD_set {l : List Int} {n m : Nat} {v : Int} : (l.set n v).getD m 0 = if n = m ∧ n < l.length then v else l.getD m 0 := by
  simp only [List.getD]
  by_cases h : n = m
  · subst h
    by_cases hl : n < l.length
    · simp [hl]
    · simp [hl]
  · rw [List.getElem?_set_ne h, if_neg (fun hh => h hh.1)]
def upE (T : Nat → Nat → Int) (a b : Nat) (m : Int) (i k : Nat) : Int :=
  if T i a < far ∧ T b k < far then min (T i k) (w64 (w64 (T i a + m) + T b k)) else T i k
theorem kIn_mat {s : List Int} {a b : Nat} {m : Int} {i k i' k' : Nat} {out : List Int} (hl : out.length = 121) (hi : i < 11) (hk : k < 11) (hk' : k' < 11) :
    mat (kIn s a b m i out k) i' k' = if i' = i ∧ k' = k ∧ mat s i a < far ∧ mat s b k < far then min (mat out i k) (w64 (w64 (mat s i a + m) + mat s b k)) else mat out i' k' := by
  unfold kIn
  by_cases hc : mat s i a < far ∧ mat s b k < far
  · rw [if_pos hc]
    unfold mat at hc ⊢
    rw [getD_set]
    by_cases e : i' = i ∧ k' = k
    · obtain ⟨rfl, rfl⟩ := e
      rw [if_pos ⟨rfl, by omega⟩, if_pos ⟨rfl, rfl, hc⟩]
    · rw [if_neg (by omega), if_neg (by omega)]
  · rw [if_neg hc, if_neg (by omega)]
theorem kRow_mat {s : List Int} {a b : Nat} {m : Int} {i i' k' : Nat} {out : List Int} (hl : out.length = 121) (hi : i < 11) (hk' : k' < 11) (n : Nat) (hn : n ≤ 11) :
    mat (kRow s a b m i out n) i' k' = if i' = i ∧ k' < n ∧ mat s i a < far ∧ mat s b k' < far then min (mat out i k') (w64 (w64 (mat s i a + m) + mat s b k')) else mat out i' k' := by
  induction n with
  | zero =>
    have : kRow s a b m i out 0 = out := rfl
    rw [this, if_neg (by omega)]
  | succ n ih =>
    have ih := ih (by omega)
    rw [kRow_succ, kIn_mat (by rw [kRow_len, hl]) hi (by omega) hk']
    by_cases e : i' = i ∧ k' = n
    · obtain ⟨rfl, rfl⟩ := e
      rw [if_neg (by omega)] at ih
      by_cases hc : mat s i' a < far ∧ mat s b k' < far
      · rw [if_pos ⟨rfl, rfl, hc⟩, if_pos ⟨rfl, by omega, hc⟩, ih]
      · rw [if_neg (by omega), if_neg (by omega), ih]
    · rw [if_neg (by omega), ih]
      by_cases hc : i' = i ∧ k' < n ∧ mat s i a < far ∧ mat s b k' < far
      · rw [if_pos hc, if_pos (by omega)]
      · rw [if_neg hc, if_neg (by omega)]
theorem kAll_mat {s : List Int} {a b : Nat} {m : Int} {i' k' : Nat} (hl : s.length = 121) (hk' : k' < 11) (n : Nat) (hn : n ≤ 11) :
    mat (kAll s a b m n) i' k' = if i' < n then upE (mat s) a b m i' k' else mat s i' k' := by
  induction n with
  | zero =>
    have : kAll s a b m 0 = s := rfl
    rw [this, if_neg (by omega)]
  | succ n ih =>
    have ih := ih (by omega)
    rw [kAll_succ, kRow_mat (by rw [kAll_len, hl]) (by omega) hk' 11 (by omega)]
    by_cases e : i' = n
    · subst e
      rw [if_neg (by omega)] at ih
      rw [ih, if_pos (by omega : i' < i' + 1)]
      unfold upE
      by_cases hc : mat s i' a < far ∧ mat s b k' < far
      · rw [if_pos ⟨rfl, by omega, hc⟩, if_pos hc]
      · rw [if_neg (by omega), if_neg hc]
    · rw [if_neg (by omega), ih]
      by_cases h : i' < n
      · rw [if_pos h, if_pos (by omega)]
      · rw [if_neg h, if_neg (by omega)]
set_option maxRecDepth 100000 in
theorem blank_mat {i k : Nat} (hi : i < 11) (hk : k < 11) : blank.mat i k = if i = k then 0 else far := by
  have h : ((List.range 11).all fun i => (List.range 11).all fun k => decide (mat (bAll 11) i k = if i = k then 0 else far)) = true := by decide +kernel
  rw [List.all_eq_true] at h
  have h := h i (by simpa using hi)
  rw [List.all_eq_true] at h
  exact of_decide_eq_true (h k (by simpa using hk))
theorem know_mat {s : Sums} {a b : Nat} {m : Int} (h1 : ¬ w64 (s.mat b a + m) < 0) (h2 : ¬ s.mat a b ≤ m) : (s.know a b m).2 = true ∧ ∀ i k, i < 11 → k < 11 → (s.know a b m).1.mat i k = upE s.mat a b m i k := by
  have e : Swa.know s.1 a b m = (kAll s.1 a b m 11, true) := by
    unfold Swa.know
    have h1' : ¬ w64 (mat s.1 b a + m) < 0 := h1
    have h2' : ¬ mat s.1 a b ≤ m := h2
    rw [if_neg h1', if_neg h2']
  refine ⟨?_, fun i k hi hk => ?_⟩
  · show (Swa.know s.1 a b m).2 = true
    rw [e]
  · show mat (Swa.know s.1 a b m).1 i k = _
    rw [e]
    show mat (kAll s.1 a b m 11) i k = _
    rw [kAll_mat s.2 hk 11 (by omega), if_pos hi]
    rfl
theorem know_same {s : Sums} {a b : Nat} {m : Int} (h1 : ¬ w64 (s.mat b a + m) < 0) (h2 : s.mat a b ≤ m) : s.know a b m = (s, true) := by
  have e : Swa.know s.1 a b m = (s.1, true) := by
    unfold Swa.know
    have h1' : ¬ w64 (mat s.1 b a + m) < 0 := h1
    have h2' : mat s.1 a b ≤ m := h2
    rw [if_neg h1', if_pos h2']
  unfold Sums.know
  congr 1
  · apply Subtype.ext
    show (Swa.know s.1 a b m).1 = s.1
    rw [e]
  · rw [e]
structure Tab (T : Nat → Nat → Int) (n : Nat) (x : Nat → Int) : Prop where
  n10 : n ≤ 10
  hi : ∀ a b, a ≤ n → b ≤ n → T a b ≤ n * 1000000
  out : ∀ a b, a < 11 → b < 11 → n < a ∨ n < b → a ≠ b → T a b = far
  diag : ∀ a, a < 11 → T a a = 0
  sat : ∀ a b, a ≤ n → b ≤ n → x b - x a ≤ T a b
  tri : ∀ a b c, a ≤ n → b ≤ n → c ≤ n → T a c ≤ T a b + T b c
  x0 : ∀ a, a ≤ n → 0 ≤ x a
  x1 : ∀ a, a ≤ n → x a ≤ n * 1000000
theorem Tab.lt {T : Nat → Nat → Int} {n : Nat} {x : Nat → Int} (h : Tab T n x) {a b : Nat} (ha : a ≤ n) (hb : b ≤ n) : T a b ≤ 10000000 ∧ -10000000 ≤ T a b := by
  have h1 := h.hi a b ha hb
  have h2 := h.sat a b ha hb
  have h3 := h.x0 b hb
  have h4 := h.x1 a ha
  have := h.n10
  omega
theorem w64_id {x : Int} (h1 : -9223372036854775808 ≤ x) (h2 : x ≤ 9223372036854775807) : w64 x = x := wrap64 h1 (by omega)
theorem Tab.more {s : Sums} {n : Nat} {x : Nat → Int} (h : Tab s.mat n x) {a b : Nat} {m : Int} (ha : a ≤ n) (hb : b ≤ n) (hm : x b - x a ≤ m) (m1 : -1000000 ≤ m) (m2 : m ≤ 1000000) :
    (s.know a b m).2 = true ∧ Tab (s.know a b m).1.mat n x ∧ (∀ i k, i ≤ n → k ≤ n → (s.know a b m).1.mat i k ≤ s.mat i k) ∧ (s.know a b m).1.mat a b ≤ m := by
  have n10 := h.n10
  have hba := h.lt hb ha
  have hsba := h.sat b a hb ha
  have c1 : ¬ w64 (s.mat b a + m) < 0 := by rw [w64_id (by omega) (by omega)]; omega
  by_cases c2 : s.mat a b ≤ m
  · rw [know_same c1 c2]
    exact ⟨rfl, h, fun _ _ _ _ => Int.le_refl _, c2⟩
  · obtain ⟨k1, k2⟩ := know_mat c1 c2
    generalize (s.know a b m).1 = s' at k2
    have up : ∀ i k, i ≤ n → k ≤ n → s'.mat i k = min (s.mat i k) (s.mat i a + m + s.mat b k) := by
      intro i k hi hk
      have q1 := h.lt hi ha
      have q2 := h.lt hb hk
      rw [k2 i k (by omega) (by omega), upE, if_pos ⟨by unfold far; omega, by unfold far; omega⟩, w64_id (x := s.mat i a + m) (by omega) (by omega), w64_id (by omega) (by omega)]
    have daa := h.diag a (by omega)
    have dbb := h.diag b (by omega)
    refine ⟨k1, ⟨n10, fun i k hi hk => ?_, fun i k hi hk ho hne => ?_, fun i hi => ?_, fun i k hi hk => ?_, fun i j k hi hj hk => ?_, h.x0, h.x1⟩, fun i k hi hk => ?_, ?_⟩
    · rw [up i k hi hk]; have := h.hi i k hi hk; omega
    · rw [k2 i k hi hk, upE, if_neg, h.out i k hi hk ho hne]
      rintro ⟨q1, q2⟩
      rcases ho with ho | ho
      · by_cases e : i = a
        · omega
        · rw [h.out i a hi (by omega) (.inl ho) e] at q1; omega
      · by_cases e : b = k
        · omega
        · rw [h.out b k (by omega) hk (.inr ho) e] at q2; omega
    · by_cases hin : i ≤ n
      · rw [up i i hin hin, h.diag i hi]
        have := h.sat i a hin ha
        have := h.sat b i hb hin
        omega
      · rw [k2 i i hi hi, upE, if_neg, h.diag i hi]
        rintro ⟨q1, q2⟩
        rw [h.out i a hi (by omega) (.inl (by omega)) (by omega)] at q1; omega
    · rw [up i k hi hk]
      have := h.sat i k hi hk
      have := h.sat i a hi ha
      have := h.sat b k hb hk
      omega
    · rw [up i k hi hk, up i j hi hj, up j k hj hk]
      have t1 := h.tri i j k hi hj hk
      have t2 := h.tri b j k hb hj hk
      have t3 := h.tri i j a hi hj ha
      have t4 := h.tri b j a hb hj ha
      omega
    · rw [up i k hi hk]; omega
    · rw [up a b ha hb]; omega
theorem Tab.add {s : Sums} {n : Nat} {x : Nat → Int} (h : Tab s.mat n x) (hn : n < 10) {p : Nat} {lo hi t : Int} (hp : p ≤ n) (l1 : 1 ≤ lo) (l2 : lo ≤ t) (l3 : t ≤ hi) (l4 : hi ≤ 1000000) :
    (s.know p (n + 1) hi).2 = true ∧ ((s.know p (n + 1) hi).1.know (n + 1) p (w64 (0 - lo))).2 = true ∧
    Tab ((s.know p (n + 1) hi).1.know (n + 1) p (w64 (0 - lo))).1.mat (n + 1) (fun i => if i = n + 1 then x p + t else x i) ∧
    (∀ i k, i ≤ n → k ≤ n → ((s.know p (n + 1) hi).1.know (n + 1) p (w64 (0 - lo))).1.mat i k = s.mat i k) ∧
    (∀ k, k ≤ n → ((s.know p (n + 1) hi).1.know (n + 1) p (w64 (0 - lo))).1.mat (n + 1) k = s.mat p k - lo) := by
  have o1 : ∀ i, i ≤ n → s.mat i (n + 1) = far := fun i hi => h.out i (n + 1) (by omega) (by omega) (.inr (by omega)) (by omega)
  have o2 : ∀ i, i ≤ n → s.mat (n + 1) i = far := fun i hi => h.out (n + 1) i (by omega) (by omega) (.inl (by omega)) (by omega)
  have hf : far = 1099511627776 := rfl
  have hpp := h.diag p (by omega)
  have hnn := h.diag (n + 1) (by omega)
  have hw : w64 (0 - lo) = -lo := by rw [w64_id (by omega) (by omega)]; omega
  obtain ⟨k1, k2⟩ := know_mat (s := s) (a := p) (b := n + 1) (m := hi) (by rw [o2 p hp, w64_id (by omega) (by omega)]; omega) (by rw [o1 p hp]; omega)
  refine ⟨k1, ?_⟩
  generalize (s.know p (n + 1) hi).1 = s1 at k2
  -- the first step
  have a1 : ∀ i k, i ≤ n → k ≤ n → s1.mat i k = s.mat i k := by
    intro i k hi hk
    rw [k2 i k (by omega) (by omega), upE, if_neg]
    rintro ⟨_, q⟩
    rw [o2 k hk] at q; omega
  have a2 : ∀ i, i ≤ n → s1.mat i (n + 1) = s.mat i p + hi := by
    intro i hi'
    have := h.lt hi' hp
    rw [k2 i (n + 1) (by omega) (by omega), upE, if_pos ⟨by omega, by omega⟩, o1 i hi', hnn, w64_id (x := s.mat i p + hi) (by omega) (by omega), w64_id (by omega) (by omega)]
    omega
  have a3 : ∀ k, k ≤ n → s1.mat (n + 1) k = far := by
    intro k hk
    rw [k2 (n + 1) k (by omega) (by omega), upE, if_neg, o2 k hk]
    rintro ⟨q, _⟩
    rw [o2 p hp] at q; omega
  have a4 : ∀ i k, i < 11 → k < 11 → n + 1 < i ∨ n + 1 < k → i ≠ k → s1.mat i k = far := by
    intro i k hi hk ho hne
    rw [k2 i k hi hk, upE, if_neg, h.out i k hi hk (by omega) hne]
    rintro ⟨q1, q2⟩
    rcases ho with ho | ho
    · rw [h.out i p hi (by omega) (.inl (by omega)) (by omega)] at q1; omega
    · rw [h.out (n + 1) k (by omega) hk (.inr (by omega)) (by omega)] at q2; omega
  have a5 : ∀ i, n < i → i < 11 → s1.mat i i = 0 := by
    intro i hi hi2
    rw [k2 i i hi2 hi2, upE, if_neg, h.diag i hi2]
    rintro ⟨q1, _⟩
    rw [h.out i p hi2 (by omega) (.inl hi) (by omega)] at q1; omega
  rw [hw]
  have b1 : s1.mat p (n + 1) = hi := by rw [a2 p hp]; omega
  obtain ⟨k3, k4⟩ := know_mat (s := s1) (a := n + 1) (b := p) (m := -lo) (by rw [b1, w64_id (by omega) (by omega)]; omega) (by rw [a3 p hp]; omega)
  refine ⟨k3, ?_⟩
  generalize (s1.know (n + 1) p (-lo)).1 = s2 at k4
  have c1 : ∀ i k, i ≤ n → k ≤ n → s2.mat i k = s.mat i k := by
    intro i k hi' hk
    have q1 := h.lt hi' hp
    have q2 := h.lt hp hk
    have q3 := h.tri i p k hi' hp hk
    rw [k4 i k (by omega) (by omega), upE, a1 i k hi' hk, a2 i hi', a1 p k hp hk, if_pos ⟨by omega, by omega⟩, w64_id (x := s.mat i p + hi + -lo) (by omega) (by omega), w64_id (by omega) (by omega)]
    omega
  have c2 : ∀ i, i ≤ n → s2.mat i (n + 1) = s.mat i p + hi := by
    intro i hi'
    have q1 := h.lt hi' hp
    rw [k4 i (n + 1) (by omega) (by omega), upE, a2 i hi', b1, if_pos ⟨by omega, by omega⟩, w64_id (x := s.mat i p + hi + -lo) (by omega) (by omega), w64_id (by omega) (by omega)]
    omega
  have c3 : ∀ k, k ≤ n → s2.mat (n + 1) k = s.mat p k - lo := by
    intro k hk
    have q2 := h.lt hp hk
    rw [k4 (n + 1) k (by omega) (by omega), upE, a3 k hk, a5 (n + 1) (by omega) (by omega), a1 p k hp hk, if_pos ⟨by omega, by omega⟩, w64_id (x := 0 + -lo) (by omega) (by omega), w64_id (by omega) (by omega)]
    omega
  have c4 : s2.mat (n + 1) (n + 1) = 0 := by
    rw [k4 (n + 1) (n + 1) (by omega) (by omega), upE, a5 (n + 1) (by omega) (by omega), b1, if_pos ⟨by omega, by omega⟩, w64_id (x := 0 + -lo) (by omega) (by omega), w64_id (by omega) (by omega)]
    omega
  refine ⟨⟨by omega, fun i k hi' hk => ?_, fun i k hi' hk ho hne => ?_, fun i hi' => ?_, fun i k hi' hk => ?_, fun i j k hi' hj hk => ?_, fun i hi' => ?_, fun i hi' => ?_⟩, c1, c3⟩
  · by_cases e1 : i ≤ n
    · by_cases e2 : k ≤ n
      · rw [c1 i k e1 e2]; have := h.hi i k e1 e2; omega
      · rw [show k = n + 1 by omega, c2 i e1]; have := h.hi i p e1 hp; omega
    · rw [show i = n + 1 by omega]
      by_cases e2 : k ≤ n
      · rw [c3 k e2]; have := h.hi p k hp e2; omega
      · rw [show k = n + 1 by omega, c4]; omega
  · rw [k4 i k hi' hk, upE, if_neg, a4 i k hi' hk ho hne]
    rintro ⟨q1, q2⟩
    rcases ho with ho | ho
    · rw [a4 i (n + 1) hi' (by omega) (.inl ho) (by omega)] at q1; omega
    · rw [a4 p k (by omega) hk (.inr ho) (by omega)] at q2; omega
  · by_cases e1 : i ≤ n
    · rw [c1 i i e1 e1, h.diag i hi']
    · by_cases e2 : i = n + 1
      · rw [e2, c4]
      · rw [k4 i i hi' hi', upE, if_neg, a5 i (by omega) hi']
        rintro ⟨q1, _⟩
        rw [a4 i (n + 1) hi' (by omega) (.inl (by omega)) e2] at q1; omega
  · by_cases e1 : i ≤ n
    · rw [if_neg (by omega : ¬ i = n + 1)]
      by_cases e2 : k ≤ n
      · rw [if_neg (by omega : ¬ k = n + 1), c1 i k e1 e2]; exact h.sat i k e1 e2
      · rw [if_pos (by omega : k = n + 1), show k = n + 1 by omega, c2 i e1]; have := h.sat i p e1 hp; omega
    · rw [if_pos (by omega : i = n + 1), show i = n + 1 by omega]
      by_cases e2 : k ≤ n
      · rw [if_neg (by omega : ¬ k = n + 1), c3 k e2]; have := h.sat p k hp e2; omega
      · rw [if_pos (by omega : k = n + 1), show k = n + 1 by omega, c4]; omega
  · have val : ∀ i k, i ≤ n + 1 → k ≤ n + 1 → s2.mat i k = (if i = n + 1 then (if k = n + 1 then 0 else s.mat p k - lo) else if k = n + 1 then s.mat i p + hi else s.mat i k) := by
      intro i k h1 h2
      by_cases e1 : i = n + 1
      · by_cases e2 : k = n + 1
        · rw [if_pos e1, if_pos e2, e1, e2, c4]
        · rw [if_pos e1, if_neg e2, e1, c3 k (by omega)]
      · by_cases e2 : k = n + 1
        · rw [if_neg e1, if_pos e2, e2, c2 i (by omega)]
        · rw [if_neg e1, if_neg e2, c1 i k (by omega) (by omega)]
    rw [val i k hi' hk, val i j hi' hj, val j k hj hk]
    by_cases e1 : i = n + 1
    · by_cases e2 : j = n + 1
      · by_cases e3 : k = n + 1
        · simp only [e1, e2, e3, if_true]; omega
        · simp only [e1, e2, e3, if_true, if_false]; omega
      · by_cases e3 : k = n + 1
        · simp only [e1, e2, e3, if_true, if_false]
          have := h.tri p j p hp (by omega) hp
          omega
        · simp only [e1, e2, e3, if_true, if_false]
          have := h.tri p j k hp (by omega) (by omega)
          omega
    · by_cases e2 : j = n + 1
      · by_cases e3 : k = n + 1
        · simp only [e1, e2, e3, if_true, if_false]; omega
        · simp only [e1, e2, e3, if_true, if_false]
          have := h.tri i p k (by omega) hp (by omega)
          omega
      · by_cases e3 : k = n + 1
        · simp only [e1, e2, e3, if_true, if_false]
          have := h.tri i j p (by omega) (by omega) hp
          omega
        · simp only [e1, e2, e3, if_false]
          exact h.tri i j k (by omega) (by omega) (by omega)
  · split
    · have := h.x0 p hp; omega
    · exact h.x0 i (by omega)
  · split
    · have := h.x1 p hp; omega
    · have := h.x1 i (by omega); omega
end Go.Proofs.Swa

set_option linter.unusedVariables false
set_option linter.unusedSimpArgs false
namespace Go.Proofs.Swa
open Go
def Fits (spot : Int) : Int → List (Act × Int) → Prop
  | _, [] => True
  | lie, (a, t) :: l => if a.Spot = spot then (1 ≤ a.Min ∧ a.Min ≤ t ∧ t ≤ a.Max ∧ a.Max ≤ 1000000) ∧ (if a.Take = true then t ≤ lie ∧ Fits spot (lie - t) l else Fits spot (lie + t) l) else Fits spot lie l
structure PInv (p : Pst) (i : Nat) (lie : Int) : Prop where
  ok : p.ok = true
  next : p.next ≤ i
  mt : p.m.tips ≤ p.next ∧ p.m.takes ≤ p.next
  tab : ∃ x, Tab p.s.mat p.next x ∧ x p.m.tips - x p.m.takes = lie
  mem : p.m ∈ p.ms
  all : ∀ m, m ∈ p.ms → m.tips ≤ p.next ∧ m.takes ≤ p.next ∧ p.s.mat m.takes 0 ≤ 0 ∧ p.s.mat m.tips m.takes ≤ 0 ∧ p.s.mat p.m.tips m.tips ≤ 0 ∧ (m.act < 0 → m.tips = 0)
  pw : p.ms.Pairwise fun a b => p.s.mat b.tips a.tips ≤ 0
theorem pw_snoc {α : Type} {R : α → α → Prop} {l : List α} {x : α} (h : l.Pairwise R) (k : ∀ a, a ∈ l → R a x) : (l ++ [x]).Pairwise R := by
  rw [List.pairwise_append]
  refine ⟨h, List.pairwise_singleton _ _, fun a ha b hb => ?_⟩
  rw [List.mem_singleton.1 hb]
  exact k a ha
theorem PInv.start : PInv pst0 0 0 := by
  have hb : ∀ i k, i < 11 → k < 11 → pst0.s.mat i k = if i = k then 0 else far := fun i k hi hk => blank_mat hi hk
  have h00 : pst0.s.mat 0 0 = 0 := hb 0 0 (by omega) (by omega)
  refine ⟨rfl, Nat.le_refl _, ⟨Nat.le_refl _, Nat.le_refl _⟩, ⟨fun _ => 0, ⟨by show 0 ≤ 10; omega, fun a b ha hb' => ?_, fun a b ha hb' ho hne => by rw [hb a b ha hb', if_neg hne], fun a ha => by rw [hb a a ha ha, if_pos rfl], fun a b ha hb' => ?_, fun a b c ha hb' hc => ?_, fun _ _ => Int.le_refl _, fun _ _ => by show (0 : Int) ≤ ((0 : Nat) : Int) * 1000000; omega⟩, rfl⟩,
    List.mem_singleton.2 rfl, fun m hm => ?_, List.pairwise_singleton _ _⟩
  · have e1 : a = 0 := Nat.le_zero.1 ha
    have e2 : b = 0 := Nat.le_zero.1 hb'
    rw [e1, e2, h00]; show (0 : Int) ≤ ((0 : Nat) : Int) * 1000000; omega
  · have e1 : a = 0 := Nat.le_zero.1 ha
    have e2 : b = 0 := Nat.le_zero.1 hb'
    rw [e1, e2, h00]; show (0 : Int) - 0 ≤ 0; omega
  · have e1 : a = 0 := Nat.le_zero.1 ha
    have e2 : b = 0 := Nat.le_zero.1 hb'
    have e3 : c = 0 := Nat.le_zero.1 hc
    rw [e1, e2, e3, h00]; omega
  · have : m = mom0 := List.mem_singleton.1 hm
    subst this
    exact ⟨Nat.le_refl _, Nat.le_refl _, Int.le_of_eq h00, Int.le_of_eq h00, Int.le_of_eq h00, fun _ => rfl⟩
theorem PInv.skip {p : Pst} {i : Nat} {lie : Int} (h : PInv p i lie) : PInv p (i + 1) lie := { h with next := Nat.le_succ_of_le h.next }
theorem PInv.tip {p : Pst} {i : Nat} {lie : Int} (h : PInv p i lie) (hi : i < 10) {a : Act} {t : Int} (ha : ¬ a.Take = true) (q : 1 ≤ a.Min ∧ a.Min ≤ t ∧ t ≤ a.Max ∧ a.Max ≤ 1000000) : PInv (p.step i a) (i + 1) (lie + t) := by
  obtain ⟨x, hx, hl⟩ := h.tab
  have hn := h.next
  obtain ⟨mt1, mt2⟩ := h.mt
  obtain ⟨k1, k2, k3, k4, k5⟩ := hx.add (by omega) mt1 q.1 q.2.1 q.2.2.1 q.2.2.2
  rw [Pst.step_tip ha]
  have htp : p.tp a = (p.s.know p.m.tips (p.next + 1) a.Max).1.know (p.next + 1) p.m.tips (w64 (0 - a.Min)) := by
    unfold Pst.tp knowIf
    simp only [h.ok, if_true, k1]
  rw [htp]
  generalize (p.s.know p.m.tips (p.next + 1) a.Max).1.know (p.next + 1) p.m.tips (w64 (0 - a.Min)) = y at k2 k3 k4 k5
  have hm := h.all p.m h.mem
  refine ⟨k2, by show p.next + 1 ≤ i + 1; omega, ⟨Nat.le_refl _, by show p.m.takes ≤ p.next + 1; omega⟩, ⟨_, k3, ?_⟩, by simp, fun m hm' => ?_, pw_snoc (h.pw.imp_of_mem fun {a b} ha hb r => ?_) fun m hm' => ?_⟩
  · dsimp only
    rw [if_pos rfl, if_neg (by omega)]
    omega
  · dsimp only
    rcases List.mem_append.1 hm' with hm' | hm'
    · obtain ⟨a1, a2, a3, a4, a5, a6⟩ := h.all m hm'
      refine ⟨by omega, by omega, by rw [k4 _ _ a2 (by omega)]; exact a3, by rw [k4 _ _ a1 a2]; exact a4, by rw [k5 _ a1]; omega, a6⟩
    · rw [List.mem_singleton.1 hm']
      dsimp only
      refine ⟨Nat.le_refl _, by omega, by rw [k4 _ _ mt2 (by omega)]; exact hm.2.2.1, by rw [k5 _ mt2]; have := hm.2.2.2.1; omega, by rw [k3.diag (p.next + 1) (by omega)]; exact Int.le_refl _, fun hh => by omega⟩
  · have b1 := (h.all a ha).1
    have b2 := (h.all b hb).1
    dsimp only
    rw [k4 _ _ b2 b1]; exact r
  · have b1 := h.all m hm'
    dsimp only
    rw [k5 _ b1.1]
    have := b1.2.2.2.2.1
    omega
theorem PInv.take {p : Pst} {i : Nat} {lie : Int} (h : PInv p i lie) (hi : i < 10) {a : Act} {t : Int} (ha : a.Take = true) (q : 1 ≤ a.Min ∧ a.Min ≤ t ∧ t ≤ a.Max ∧ a.Max ≤ 1000000) (hq : t ≤ lie) : PInv (p.step i a) (i + 1) (lie - t) := by
  obtain ⟨x, hx, hl⟩ := h.tab
  have hn := h.next
  obtain ⟨mt1, mt2⟩ := h.mt
  obtain ⟨k1, k2, k3, k4, k5⟩ := hx.add (by omega) mt2 q.1 q.2.1 q.2.2.1 q.2.2.2
  rw [Pst.step_take ha]
  have htk : p.tk a = ((p.s.know p.m.takes (p.next + 1) a.Max).1.know (p.next + 1) p.m.takes (w64 (0 - a.Min))).1.know p.m.tips (p.next + 1) 0 := by
    unfold Pst.tk knowIf
    simp only [h.ok, if_true, k1, k2]
  rw [htk]
  generalize ((p.s.know p.m.takes (p.next + 1) a.Max).1.know (p.next + 1) p.m.takes (w64 (0 - a.Min))).1 = y at k3 k4 k5
  obtain ⟨z1, z2, z3, z4⟩ := k3.more (a := p.m.tips) (b := p.next + 1) (m := 0) (by omega) (Nat.le_refl _) (by
    rw [if_pos rfl, if_neg (by omega)]
    omega) (by omega) (by omega)
  generalize y.know p.m.tips (p.next + 1) 0 = z at z1 z2 z3 z4
  have hm := h.all p.m h.mem
  refine ⟨z1, by show p.next + 1 ≤ i + 1; omega, ⟨by show p.m.tips ≤ p.next + 1; omega, Nat.le_refl _⟩, ⟨_, z2, ?_⟩, by simp, fun m hm' => ?_, pw_snoc (h.pw.imp_of_mem fun {a b} ha hb r => ?_) fun m hm' => ?_⟩
  · dsimp only
    rw [if_pos rfl, if_neg (by omega)]
    omega
  · dsimp only
    rcases List.mem_append.1 hm' with hm' | hm'
    · obtain ⟨a1, a2, a3, a4, a5, a6⟩ := h.all m hm'
      refine ⟨by omega, by omega, ?_, ?_, ?_, a6⟩
      · have := z3 m.takes 0 (by omega) (by omega)
        rw [k4 _ _ a2 (by omega)] at this; omega
      · have := z3 m.tips m.takes (by omega) (by omega)
        rw [k4 _ _ a1 a2] at this; omega
      · have := z3 p.m.tips m.tips (by omega) (by omega)
        rw [k4 _ _ mt1 a1] at this; omega
    · rw [List.mem_singleton.1 hm']
      dsimp only
      refine ⟨by omega, Nat.le_refl _, ?_, z4, by rw [z2.diag p.m.tips (by omega)]; exact Int.le_refl _, fun hh => by omega⟩
      have := z3 (p.next + 1) 0 (Nat.le_refl _) (by omega)
      rw [k5 _ (by omega)] at this
      have := hm.2.2.1
      omega
  · have b1 := (h.all a ha).1
    have b2 := (h.all b hb).1
    dsimp only
    have := z3 b.tips a.tips (by omega) (by omega)
    rw [k4 _ _ b2 b1] at this; omega
  · have b1 := h.all m hm'
    dsimp only
    have := z3 p.m.tips m.tips (by omega) (by omega)
    rw [k4 _ _ mt1 b1.1] at this
    have := b1.2.2.2.2.1
    omega
theorem PInv.run (spot : Int) : ∀ (l : List (Act × Int)) (i : Nat) (p : Pst) (lie : Int), PInv p i lie → i + l.length ≤ 10 → Fits spot lie l → ∃ lie', PInv (Pst.run spot i (l.map (·.1)) p) (i + l.length) lie'
  | [], i, p, lie, h, _, _ => ⟨lie, h⟩
  | (a, t) :: l, i, p, lie, h, hl, hf => by
    simp only [List.map_cons, List.length_cons] at hl ⊢
    rw [Pst.run, show i + (l.length + 1) = i + 1 + l.length by omega]
    rw [Fits] at hf
    by_cases hs : a.Spot = spot
    · rw [if_pos hs] at hf ⊢
      obtain ⟨q, hf⟩ := hf
      by_cases ht : a.Take = true
      · rw [if_pos ht] at hf
        exact PInv.run spot l (i + 1) _ _ (h.take (by omega) ht q hf.1) (by omega) hf.2
      · rw [if_neg ht] at hf
        exact PInv.run spot l (i + 1) _ _ (h.tip (by omega) ht q) (by omega) hf
    · rw [if_neg hs] at hf ⊢
      exact PInv.run spot l (i + 1) _ _ h.skip (by omega) hf
structure HpOk (h : Hp) : Prop where
  tab : ∃ n x, Tab h.s.mat n x ∧ ∀ m, m ∈ h.m → m.tips ≤ n ∧ m.takes ≤ n
  all : ∀ m, m ∈ h.m → h.s.mat m.takes 0 ≤ 0 ∧ h.s.mat m.tips m.takes ≤ 0 ∧ (m.act < 0 → m.tips = 0)
  pw : h.m.Pairwise fun a b => h.s.mat b.tips a.tips ≤ 0
  pos : h.m ≠ []
theorem pile_ok {g : Gnd} {spot : Int} {truth : List Int} (hl : g.Acts.length ≤ 10) (he : truth.length = g.Acts.length) (hf : Fits spot 0 (g.Acts.zip truth)) : (pile g spot).2 = true ∧ HpOk (pile g spot).1 := by
  have hz : (g.Acts.zip truth).map (·.1) = g.Acts := by
    rw [List.map_fst_zip]
    omega
  obtain ⟨lie, h⟩ := PInv.run spot (g.Acts.zip truth) 0 pst0 0 PInv.start (by rw [List.length_zip]; omega) hf
  rw [hz] at h
  obtain ⟨x, hx, _⟩ := h.tab
  exact ⟨h.ok, ⟨⟨_, x, hx, fun m hm => ⟨(h.all m hm).1, (h.all m hm).2.1⟩⟩, fun m hm => ⟨(h.all m hm).2.2.1, (h.all m hm).2.2.2.1, (h.all m hm).2.2.2.2.2⟩, h.pw, fun e => by have := h.mem; have e : (Pst.run spot 0 g.Acts pst0).ms = [] := e; rw [e] at this; cases this⟩⟩
theorem beforeL_mono {R : Mom → Mom → Prop} {a1 a2 : Int} (ha : a1 ≤ a2) : ∀ (l : List Mom) (o1 o2 : Mom), l.Pairwise R → (o1 = o2 ∨ R o1 o2) → (∀ m, m ∈ l → R o1 m ∧ R o2 m) → beforeL a1 o1 l = beforeL a2 o2 l ∨ R (beforeL a1 o1 l) (beforeL a2 o2 l)
  | [], o1, o2, _, h, _ => h
  | m :: l, o1, o2, hp, h, hm => by
    rw [beforeL, beforeL]
    rw [List.pairwise_cons] at hp
    have h0 := hm m (List.mem_cons_self ..)
    refine beforeL_mono ha l _ _ hp.2 ?_ fun m' hm' => ?_
    · by_cases c1 : m.act < a1
      · rw [if_pos c1, if_pos (by omega)]; exact .inl rfl
      · rw [if_neg c1]
        by_cases c2 : m.act < a2
        · rw [if_pos c2]; exact .inr h0.1
        · rw [if_neg c2]; exact h
    · have h1 := hm m' (List.mem_cons_of_mem _ hm')
      have h2 := hp.1 m' hm'
      refine ⟨?_, ?_⟩
      · split
        · exact h2
        · exact h1.1
      · split
        · exact h2
        · exact h1.2
theorem beforeL_lt {act : Int} : ∀ (l : List Mom) (out : Mom), beforeL act out l = out ∨ (beforeL act out l ∈ l ∧ (beforeL act out l).act < act)
  | [], out => .inl rfl
  | m :: l, out => by
    rw [beforeL]
    rcases beforeL_lt l (if m.act < act then m else out) with h | ⟨h1, h2⟩
    · rw [h]
      split
      · rename_i hc; exact .inr ⟨List.mem_cons_self .., hc⟩
      · exact .inl rfl
    · exact .inr ⟨List.mem_cons_of_mem _ h1, h2⟩
theorem Hp.before_mem {h : Hp} (k : HpOk h) (act : Int) : h.before act ∈ h.m := by
  have hp := k.pos
  unfold Hp.before
  cases hm : h.m with
  | nil => exact absurd hm hp
  | cons a l =>
    rcases beforeL_lt (act := act) (a :: l) ((a :: l).getD 0 default) with e | ⟨e, _⟩
    · rw [e]; exact List.mem_cons_self ..
    · exact e
theorem Hp.before_mono {h : Hp} (k : HpOk h) {a1 a2 : Int} (ha : a1 ≤ a2) : h.s.mat (h.before a2).tips (h.before a1).tips ≤ 0 := by
  obtain ⟨n, x, ht, hm⟩ := k.tab
  have d : ∀ m, m ∈ h.m → h.s.mat m.tips m.tips ≤ 0 := fun m hm' => Int.le_of_eq (ht.diag m.tips (by have := (hm m hm').1; have := ht.n10; omega))
  have hp := k.pos
  have key : h.before a1 = h.before a2 ∨ h.s.mat (h.before a2).tips (h.before a1).tips ≤ 0 := by
    unfold Hp.before
    cases hm0 : h.m with
    | nil => exact absurd hm0 hp
    | cons a l =>
      have hpw := k.pw
      rw [hm0] at hpw d
      refine beforeL_mono (R := fun a b => h.s.mat b.tips a.tips ≤ 0) ha (a :: l) _ _ hpw (.inl rfl) fun m hm' => ?_
      have : h.s.mat m.tips a.tips ≤ 0 := by
        rcases List.mem_cons.1 hm' with rfl | hm'
        · exact d _ (List.mem_cons_self ..)
        · exact (List.pairwise_cons.1 hpw).1 m hm'
      exact ⟨this, this⟩
  rcases key with e | e
  · rw [e]; exact d _ (Hp.before_mem k a2)
  · exact e
theorem Hp.before_zero {h : Hp} (k : HpOk h) (h0 : (h.m.getD 0 default).tips = 0) {act : Int} (ha : act ≤ 0) : (h.before act).tips = 0 := by
  unfold Hp.before
  rcases beforeL_lt (act := act) h.m (h.m.getD 0 default) with e | ⟨e1, e2⟩
  · rw [e]; exact h0
  · exact (k.all _ e1).2.2 (by omega)
end Go.Proofs.Swa

set_option linter.unusedVariables false
set_option linter.unusedSimpArgs false
namespace Go.Proofs.Swa
open Go
theorem run_head (spot : Int) : ∀ (l : List Act) (i : Nat) (p : Pst), p.ms.getD 0 default = mom0 → p.ms ≠ [] → (Pst.run spot i l p).ms.getD 0 default = mom0
  | [], i, p, h, _ => h
  | a :: l, i, p, h, hn => by
    rw [Pst.run]
    have key : ∀ m : Mom, (p.ms ++ [m]).getD 0 default = mom0 ∧ p.ms ++ [m] ≠ [] := by
      intro m
      cases hm : p.ms with
      | nil => exact absurd hm hn
      | cons b r => rw [hm] at h; exact ⟨h, by simp⟩
    refine run_head spot l (i + 1) _ ?_ ?_
    · split
      · unfold Pst.step
        split
        · exact (key _).1
        · exact (key _).1
      · exact h
    · split
      · unfold Pst.step
        split
        · exact (key _).2
        · exact (key _).2
      · exact hn
theorem pile_head (g : Gnd) (spot : Int) : ((pile g spot).1.m.getD 0 default).tips = 0 := by
  have : (pile g spot).1.m.getD 0 default = mom0 := run_head spot g.Acts 0 pst0 rfl (by simp [pst0])
  rw [this]; rfl
theorem until_mono {a b : Int} (h : a ≤ b) : ∀ l : List Act, untilL a l ≤ untilL b l
  | [] => Nat.le_refl _
  | x :: l => by
    rw [untilL, untilL]
    have := until_mono h l
    by_cases c : x.Hour ≤ a
    · rw [if_pos c, if_pos (by omega)]; omega
    · rw [if_neg c]; omega
theorem until_neg {a : Int} (h : a < 0) {l : List Act} (hl : ∀ x, x ∈ l → 0 ≤ x.Hour) : untilL a l = 0 := by
  cases l with
  | nil => rfl
  | cons x l =>
    have := hl x (List.mem_cons_self ..)
    rw [untilL, if_neg (by omega)]
theorem knownGo_get {g : Gnd} : ∀ (n i : Nat) (acc : List Hp), (∀ j, i ≤ j → j < i + n → (pile g j).2 = true) → (knownGo g i n acc).2 = 0 ∧ (knownGo g i n acc).1 = acc ++ (List.range n).map fun j => (pile g ((i + j : Nat) : Int)).1
  | 0, i, acc, _ => ⟨rfl, by simp [knownGo]⟩
  | n + 1, i, acc, h => by
    rw [knownGo, if_pos (h i (Nat.le_refl _) (by omega))]
    have ih := knownGo_get (g := g) n (i + 1) (acc ++ [(pile g i).1]) fun j h1 h2 => h j (by omega) (by omega)
    refine ⟨ih.1, ?_⟩
    rw [ih.2, List.append_assoc, List.range_succ_eq_map, List.map_cons, List.map_map]
    congr 1
    simp only [List.singleton_append, Nat.add_zero, List.cons.injEq, true_and]
    refine List.map_congr_left fun j _ => ?_
    show (pile g ((i + 1 + j : Nat) : Int)).1 = (pile g ((i + (j + 1) : Nat) : Int)).1
    rw [show i + 1 + j = i + (j + 1) by omega]
theorem known_get {g : Gnd} (h : ∀ j, j < g.Spots.length → (pile g (j : Nat)).2 = true) : (known g).2 = 0 ∧ (known g).1 = (List.range g.Spots.length).map fun j => (pile g (j : Nat)).1 := by
  have := knownGo_get (g := g) g.Spots.length 0 [] fun j _ h2 => h j (by omega)
  refine ⟨this.1, ?_⟩
  have e := this.2
  simp only [Nat.zero_add, List.nil_append] at e
  exact e
structure Fair (g : Gnd) : Prop where
  ck : check g = 0
  hp : ∀ j, j < g.Spots.length → (pile g (j : Nat)).2 = true ∧ HpOk (pile g (j : Nat)).1
  hour : ∀ x, x ∈ g.Acts → 0 ≤ x.Hour
theorem Fair.masses {g : Gnd} (h : Fair g) {hour : Int} (h1 : 0 ≤ hour) (h2 : hour ≤ 72) : (Swa.masses g hour).2 = 0 ∧ (Swa.masses g hour).1.length = g.Spots.length ∧ ∀ i, i < g.Spots.length → (Swa.masses g hour).1.getD i default = massAt g hour (pile g (i : Nat)).1 := by
  obtain ⟨k1, k2⟩ := known_get fun j hj => (h.hp j hj).1
  have hin : inB hour 0 72 = true := by unfold inB; exact decide_eq_true ⟨h1, h2⟩
  have e : Swa.masses g hour = ((known g).1.map (massAt g hour), 0) := by
    unfold Swa.masses
    rw [if_neg (by rw [h.ck]; simp), if_pos hin, if_neg (by rw [k1]; simp)]
  rw [e]
  refine ⟨rfl, by rw [k2]; simp, fun i hi => ?_⟩
  rw [k2]
  simp [List.getD, hi]
def verdict (h : Hp) (old takes : Nat) : Int := if h.s.mat old takes < 0 then 1 else if h.s.mat takes old ≤ 0 then 2 else 3
theorem Fair.older {g : Gnd} (h : Fair g) {hour age : Int} (h1 : 0 ≤ hour) (h2 : hour ≤ 72) (h3 : 0 ≤ age) (h4 : age ≤ 72) {i : Nat} (hi : i < g.Spots.length) :
    Swa.older g i hour age = (verdict (pile g (i : Nat)).1 ((pile g (i : Nat)).1.before (untilL (hour - age - 1) g.Acts)).tips ((pile g (i : Nat)).1.before (untilL hour g.Acts)).takes, 0) := by
  obtain ⟨k1, k2⟩ := known_get fun j hj => (h.hp j hj).1
  have hok := (check_ok h.ck).spots
  have hin : inB hour 0 72 = true := by unfold inB; exact decide_eq_true ⟨h1, h2⟩
  have hin2 : inB age 0 72 = true := by unfold inB; exact decide_eq_true ⟨h3, h4⟩
  have hin3 : inB (i : Int) 0 (w64 (g.Spots.length - 1)) = true := by
    unfold inB
    rw [w64_id (by omega) (by omega)]
    exact decide_eq_true ⟨by omega, by omega⟩
  have hw : w64 (w64 (hour - age) - 1) = hour - age - 1 := by rw [w64_id (x := hour - age) (by omega) (by omega), w64_id (by omega) (by omega)]
  have hg : (known g).1.getD (i : Int).toNat default = (pile g (i : Nat)).1 := by
    rw [k2]; simp [List.getD, hi]
  unfold Swa.older
  rw [if_neg (by rw [h.ck]; simp), if_pos hin3, if_pos ⟨hin, hin2⟩, if_neg (by rw [k1]; simp), hg, hw]
  unfold verdict
  dsimp only
  split
  · rfl
  · split <;> rfl
theorem Fair.one {g : Gnd} (h : Fair g) {hour age young : Int} (h1 : 0 ≤ hour) (h2 : hour ≤ 72) (h3 : age ≤ 72) (h4 : 0 ≤ young) (h5 : young < age) {i : Nat} (hi : i < g.Spots.length) :
    let m := (pile g (i : Nat)).1.before (untilL hour g.Acts)
    let v := (Swa.older g i hour age).1
    let w := (Swa.older g i hour young).1
    (Swa.older g i hour age).2 = 0 ∧ (Swa.older g i hour young).2 = 0 ∧ Swa.older g i hour hour = (2, 0) ∧ (v = 1 → w = 1) ∧ (v = 3 → w ≠ 2) ∧ (((Swa.masses g hour).1.getD i default).Max = 0 → v = 2) ∧ ¬ ((Swa.masses g hour).1.getD i default).Min < 0 := by
  obtain ⟨p1, p2⟩ := h.hp i hi
  dsimp only
  rw [h.older h1 h2 (by omega) h3 hi, h.older h1 h2 h4 (by omega) hi, h.older h1 h2 h1 h2 hi, (h.masses h1 h2).2.2 i hi]
  have hh0 : ((pile g (i : Nat)).1.before (untilL (hour - hour - 1) g.Acts)).tips = 0 := by
    rw [until_neg (by omega) h.hour]
    exact Hp.before_zero p2 (pile_head g i) (by omega)
  rw [hh0]
  unfold massAt
  generalize (pile g (i : Nat)).1 = hp at p2
  have mo : hp.s.mat (hp.before (untilL (hour - young - 1) g.Acts)).tips (hp.before (untilL (hour - age - 1) g.Acts)).tips ≤ 0 := Hp.before_mono p2 (by have := until_mono (show hour - age - 1 ≤ hour - young - 1 by omega) g.Acts; omega)
  have mo2 : hp.s.mat (hp.before (untilL hour g.Acts)).tips (hp.before (untilL (hour - age - 1) g.Acts)).tips ≤ 0 := Hp.before_mono p2 (by have := until_mono (show hour - age - 1 ≤ hour by omega) g.Acts; omega)
  have e1 := Hp.before_mem p2 (untilL hour g.Acts)
  have e2 := Hp.before_mem p2 (untilL (hour - young - 1) g.Acts)
  have e3 := Hp.before_mem p2 (untilL (hour - age - 1) g.Acts)
  generalize hp.before (untilL hour g.Acts) = m at mo2 e1
  generalize (hp.before (untilL (hour - young - 1) g.Acts)) = b at mo e2
  generalize (hp.before (untilL (hour - age - 1) g.Acts)) = a at mo mo2 e3
  obtain ⟨n, x, ht, hm⟩ := p2.tab
  have a1 := p2.all m e1
  have ma := hm a e3
  have mb := hm b e2
  have mm := hm m e1
  have t1 := ht.tri b.tips a.tips m.takes mb.1 ma.1 mm.2
  have t2 := ht.tri m.takes b.tips a.tips mm.2 mb.1 ma.1
  have t3 := ht.tri m.takes m.tips a.tips mm.2 mm.1 ma.1
  have t4 := ht.tri a.tips m.takes a.tips ma.1 mm.2 ma.1
  have t5 := ht.tri 0 m.takes 0 (Nat.zero_le _) mm.2 (Nat.zero_le _)
  have d1 := ht.diag a.tips (by have := ht.n10; omega)
  have d2 := ht.diag 0 (by omega)
  have l1 := ht.lt mm.1 mm.2
  refine ⟨rfl, rfl, ?_, ?_, ?_, ?_, ?_⟩
  · unfold verdict
    rw [if_neg (by omega), if_pos a1.1]
  · unfold verdict
    intro hv
    have : hp.s.mat a.tips m.takes < 0 := by
      by_cases c : hp.s.mat a.tips m.takes < 0
      · exact c
      · rw [if_neg c] at hv
        split at hv <;> omega
    rw [if_pos (by omega)]
  · unfold verdict
    intro hv hw
    have c1 : ¬ hp.s.mat a.tips m.takes < 0 := by
      intro c
      rw [if_pos c] at hv; omega
    rw [if_neg c1] at hv
    have c2 : ¬ hp.s.mat m.takes a.tips ≤ 0 := by
      intro c
      rw [if_pos c] at hv; omega
    have c3 : hp.s.mat m.takes b.tips ≤ 0 := by
      by_cases c : hp.s.mat b.tips m.takes < 0
      · rw [if_pos c] at hw; omega
      · rw [if_neg c] at hw
        by_cases c' : hp.s.mat m.takes b.tips ≤ 0
        · exact c'
        · rw [if_neg c'] at hw; omega
    omega
  · intro hx
    have hx : hp.s.mat m.takes m.tips = 0 := hx
    unfold verdict
    rw [if_neg (by omega), if_pos (by omega)]
  · have : hp.least m = 0 - hp.s.mat m.tips m.takes := by
      unfold Hp.least
      exact w64_id (by omega) (by omega)
    show ¬ hp.least m < 0
    rw [this]
    omega
end Go.Proofs.Swa

