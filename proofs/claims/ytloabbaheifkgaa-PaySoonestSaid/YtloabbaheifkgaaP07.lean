/- Part 7 of a proof. -/
import Derived.Test.YtloabbaheifkgaaP06
import Derived.Test.YtloabbaheifkgaaChecked
import Derived.KernelRfl
import Derived.Lib.Strings
import Derived.Lib.Slices
import Derived.Lib.Walk
import Derived.Lib.Bytealg
set_option linter.unusedVariables false
set_option linter.unusedSimpArgs false
set_option linter.defProp false
namespace Go.Proofs.Swa
open Go
noncomputable def fs24:Array Field:=match Try.prog.underlying 24 with|some (.struct fs)=>fs|_=>#[]
noncomputable def fs26:Array Field:=match Try.prog.underlying 26 with|some (.struct fs)=>fs|_=>#[]
noncomputable def fs48:Array Field:=match Try.prog.underlying 48 with|some (.struct fs)=>fs|_=>#[]
noncomputable def fs61:Array Field:=match Try.prog.underlying 61 with|some (.struct fs)=>fs|_=>#[]
noncomputable def fs77:Array Field:=match Try.prog.underlying 77 with|some (.struct fs)=>fs|_=>#[]
noncomputable def fs84:Array Field:=match Try.prog.underlying 84 with|some (.struct fs)=>fs|_=>#[]
noncomputable def fs87:Array Field:=match Try.prog.underlying 87 with|some (.struct fs)=>fs|_=>#[]
noncomputable def fs111:Array Field:=match Try.prog.underlying 111 with|some (.struct fs)=>fs|_=>#[]
noncomputable def fs129:Array Field:=match Try.prog.underlying 129 with|some (.struct fs)=>fs|_=>#[]
noncomputable def fs161:Array Field:=match Try.prog.underlying 161 with|some (.struct fs)=>fs|_=>#[]
theorem und22:Try.prog.underlying 22=some (.slice 26):=by kernel_rfl
theorem und27:Try.prog.underlying 27=some (.slice 3):=by kernel_rfl
theorem und37:Try.prog.underlying 37=some (.slice 24):=by kernel_rfl
theorem und24:Try.prog.underlying 24=some (.struct fs24):=by kernel_rfl
theorem und3:Try.prog.underlying 3=some (.int .i64):=by kernel_rfl
theorem und26:Try.prog.underlying 26=some (.struct fs26):=by kernel_rfl
theorem und48:Try.prog.underlying 48=some (.struct fs48):=by kernel_rfl
theorem und61:Try.prog.underlying 61=some (.struct fs61):=by kernel_rfl
theorem und46:Try.prog.underlying 46=some (.slice 61):=by kernel_rfl
theorem und4:Try.prog.underlying 4=some .bool:=by kernel_rfl
theorem und62:Try.prog.underlying 62=some (.slice 77):=by kernel_rfl
theorem und63:Try.prog.underlying 63=some (.slice 9):=by kernel_rfl
theorem und77:Try.prog.underlying 77=some (.struct fs77):=by kernel_rfl
theorem und9:Try.prog.underlying 9=some .string:=by kernel_rfl
theorem und45:Try.prog.underlying 45=some (.slice 84):=by kernel_rfl
theorem und84:Try.prog.underlying 84=some (.struct fs84):=by kernel_rfl
theorem und87:Try.prog.underlying 87=some (.struct fs87):=by kernel_rfl
theorem und111:Try.prog.underlying 111=some (.struct fs111):=by kernel_rfl
theorem und109:Try.prog.underlying 109=some (.int .u64):=by kernel_rfl
theorem und129:Try.prog.underlying 129=some (.struct fs129):=by kernel_rfl
theorem und131:Try.prog.underlying 131=some (.slice 5):=by kernel_rfl
theorem und5:Try.prog.underlying 5=some (.int .u8):=by kernel_rfl
theorem und147:Try.prog.underlying 147=some (.slice 148):=by kernel_rfl
theorem und148:Try.prog.underlying 148=some (.array 51 3):=by kernel_rfl
theorem und121:Try.prog.underlying 121=some (.array 8 119):=by kernel_rfl
theorem und119:Try.prog.underlying 119=some (.array 8 4):=by kernel_rfl
theorem und161:Try.prog.underlying 161=some (.struct fs161):=by kernel_rfl
theorem sz26:tySize Try.prog 26=some 2:=by kernel_rfl
theorem sz3:tySize Try.prog 3=some 1:=by kernel_rfl
theorem sz24:tySize Try.prog 24=some 2:=by kernel_rfl
theorem sz48:tySize Try.prog 48=some 5:=by kernel_rfl
theorem sz46:tySize Try.prog 46=some 1:=by kernel_rfl
theorem sz61:tySize Try.prog 61=some 4:=by kernel_rfl
theorem sz9:tySize Try.prog 9=some 1:=by kernel_rfl
theorem sz77:tySize Try.prog 77=some 2:=by kernel_rfl
theorem sz45:tySize Try.prog 45=some 1:=by kernel_rfl
theorem sz4:tySize Try.prog 4=some 1:=by kernel_rfl
theorem sz84:tySize Try.prog 84=some 3:=by kernel_rfl
theorem sz87:tySize Try.prog 87=some 4:=by kernel_rfl
theorem sz109:tySize Try.prog 109=some 1:=by kernel_rfl
theorem sz38:tySize Try.prog 38=some 1:=by kernel_rfl
theorem sz121:tySize Try.prog 121=some 64:=by kernel_rfl
theorem sz129:tySize Try.prog 129=some 2:=by kernel_rfl
theorem sz5:tySize Try.prog 5=some 1:=by kernel_rfl
theorem sz148:tySize Try.prog 148=some 51:=by kernel_rfl
theorem sz147:tySize Try.prog 147=some 1:=by kernel_rfl
theorem sz119:tySize Try.prog 119=some 8:=by kernel_rfl
theorem sz161:tySize Try.prog 161=some 1:=by kernel_rfl
theorem sz127:tySize Try.prog 127=some 1:=by kernel_rfl
theorem by3:tyBytes Try.prog 3=some 8:=by kernel_rfl
theorem by61:tyBytes Try.prog 61=some 32:=by kernel_rfl
theorem by84:tyBytes Try.prog 84=some 24:=by kernel_rfl
theorem by148:tyBytes Try.prog 148=some 408:=by kernel_rfl
theorem ag26:tyAgg Try.prog 26=some true:=by kernel_rfl
theorem ag24:tyAgg Try.prog 24=some true:=by kernel_rfl
theorem ag3:tyAgg Try.prog 3=some false:=by kernel_rfl
theorem ag48:tyAgg Try.prog 48=some true:=by kernel_rfl
theorem ag46:tyAgg Try.prog 46=some false:=by kernel_rfl
theorem ag9:tyAgg Try.prog 9=some false:=by kernel_rfl
theorem ag45:tyAgg Try.prog 45=some false:=by kernel_rfl
theorem ag4:tyAgg Try.prog 4=some false:=by kernel_rfl
theorem ag37:tyAgg Try.prog 37=some false:=by kernel_rfl
theorem ag87:tyAgg Try.prog 87=some true:=by kernel_rfl
theorem ag61:tyAgg Try.prog 61=some true:=by kernel_rfl
theorem ag109:tyAgg Try.prog 109=some false:=by kernel_rfl
theorem ag38:tyAgg Try.prog 38=some false:=by kernel_rfl
theorem ag84:tyAgg Try.prog 84=some true:=by kernel_rfl
theorem ag121:tyAgg Try.prog 121=some true:=by kernel_rfl
theorem ag77:tyAgg Try.prog 77=some true:=by kernel_rfl
theorem ag147:tyAgg Try.prog 147=some false:=by kernel_rfl
theorem ag161:tyAgg Try.prog 161=some true:=by kernel_rfl
theorem ag5:tyAgg Try.prog 5=some false:=by kernel_rfl
theorem ag127:tyAgg Try.prog 127=some false:=by kernel_rfl
theorem ag129:tyAgg Try.prog 129=some true:=by kernel_rfl
theorem ag159:tyAgg Try.prog 159=some false:=by kernel_rfl
theorem zr26:tyZero Try.prog 26=some (.agg ([.int .i64 0,.int .i64 0]:List Value).toArray):=by kernel_rfl
theorem zr3:tyZero Try.prog 3=some (.int .i64 0):=by kernel_rfl
theorem zr24:tyZero Try.prog 24=some (.agg ([.int .i64 0,.int .i64 0]:List Value).toArray):=by kernel_rfl
theorem zr48:tyZero Try.prog 48=some (.agg ([.int .i64 0,.int .i64 0,.int .i64 0] ++ [.slice none 0 0,.slice none 0 0]:List Value).toArray):=by kernel_rfl
theorem zr61:tyZero Try.prog 61=some (.agg ([.int .i64 0,.int .i64 0,.int .i64 0] ++ [.bool false]:List Value).toArray):=by kernel_rfl
theorem zr9:tyZero Try.prog 9=some (.string .empty):=by kernel_rfl
theorem zr77:tyZero Try.prog 77=some (.agg ([.string .empty] ++ [.int .i64 0]:List Value).toArray):=by kernel_rfl
theorem zr87:tyZero Try.prog 87=some (.agg ([.slice none 0 0] ++ [.int .i64 0,.int .i64 0,.int .i64 0]:List Value).toArray):=by kernel_rfl
theorem zr111:tyZero Try.prog 111=some (.agg ([.int .u64 0]:List Value).toArray):=by kernel_rfl
theorem zr38:tyZero Try.prog 38=some (.int .i64 0):=by kernel_rfl
theorem zr84:tyZero Try.prog 84=some (.agg ([.int .i64 0,.int .i64 0] ++ [.bool false]:List Value).toArray):=by kernel_rfl
theorem zr121:tyZero Try.prog 121=some (.agg ([.bool false,.bool false,.bool false,.bool false,.bool false,.bool false,.bool false,.bool false,.bool false,.bool false,.bool false,.bool false,.bool false,.bool false,.bool false,.bool false,.bool false,.bool false,.bool false,.bool false,.bool false,.bool false,.bool false,.bool false,.bool false,.bool false,.bool false,.bool false,.bool false,.bool false,.bool false,.bool false,.bool false,.bool false,.bool false,.bool false,.bool false,.bool false,.bool false,.bool false,.bool false,.bool false,.bool false,.bool false,.bool false,.bool false,.bool false,.bool false,.bool false,.bool false,.bool false,.bool false,.bool false,.bool false,.bool false,.bool false,.bool false,.bool false,.bool false,.bool false,.bool false,.bool false,.bool false,.bool false]:List Value).toArray):=by kernel_rfl
theorem zr129:tyZero Try.prog 129=some (.agg ([.int .i64 0,.int .i64 0]:List Value).toArray):=by kernel_rfl
theorem zr148:tyZero Try.prog 148=some (.agg (zs 51:List Value).toArray):=by kernel_rfl
theorem zr147:tyZero Try.prog 147=some (.slice none 0 0):=by kernel_rfl
theorem zr161:tyZero Try.prog 161=some (.agg ([.nilFunc]:List Value).toArray):=by kernel_rfl
theorem zr127:tyZero Try.prog 127=some (.map none):=by kernel_rfl
theorem ld26 {H:AHeap} {b o:Nat}:loadA Try.prog 26 H (vptr b o)=(H.rd b).bind fun c=>atN c o 2:=loadN ag26 sz26 _ rfl
theorem ld24 {H:AHeap} {b o:Nat}:loadA Try.prog 24 H (vptr b o)=(H.rd b).bind fun c=>atN c o 2:=loadN ag24 sz24 _ rfl
theorem ld3 {H:AHeap} {b o:Nat}:loadA Try.prog 3 H (vptr b o)=(H.rd b).bind fun c=>at1 c o:=load1 ag3 _ rfl
theorem ld48 {H:AHeap} {b o:Nat}:loadA Try.prog 48 H (vptr b o)=(H.rd b).bind fun c=>atN c o 5:=loadN ag48 sz48 _ rfl
theorem ld46 {H:AHeap} {b o:Nat}:loadA Try.prog 46 H (vptr b o)=(H.rd b).bind fun c=>at1 c o:=load1 ag46 _ rfl
theorem ld9 {H:AHeap} {b o:Nat}:loadA Try.prog 9 H (vptr b o)=(H.rd b).bind fun c=>at1 c o:=load1 ag9 _ rfl
theorem ld45 {H:AHeap} {b o:Nat}:loadA Try.prog 45 H (vptr b o)=(H.rd b).bind fun c=>at1 c o:=load1 ag45 _ rfl
theorem ld4 {H:AHeap} {b o:Nat}:loadA Try.prog 4 H (vptr b o)=(H.rd b).bind fun c=>at1 c o:=load1 ag4 _ rfl
theorem ld37 {H:AHeap} {b o:Nat}:loadA Try.prog 37 H (vptr b o)=(H.rd b).bind fun c=>at1 c o:=load1 ag37 _ rfl
theorem ld87 {H:AHeap} {b o:Nat}:loadA Try.prog 87 H (vptr b o)=(H.rd b).bind fun c=>atN c o 4:=loadN ag87 sz87 _ rfl
theorem ld61 {H:AHeap} {b o:Nat}:loadA Try.prog 61 H (vptr b o)=(H.rd b).bind fun c=>atN c o 4:=loadN ag61 sz61 _ rfl
theorem ld109 {H:AHeap} {b o:Nat}:loadA Try.prog 109 H (vptr b o)=(H.rd b).bind fun c=>at1 c o:=load1 ag109 _ rfl
theorem ld38 {H:AHeap} {b o:Nat}:loadA Try.prog 38 H (vptr b o)=(H.rd b).bind fun c=>at1 c o:=load1 ag38 _ rfl
theorem ld84 {H:AHeap} {b o:Nat}:loadA Try.prog 84 H (vptr b o)=(H.rd b).bind fun c=>atN c o 3:=loadN ag84 sz84 _ rfl
theorem ld121 {H:AHeap} {b o:Nat}:loadA Try.prog 121 H (vptr b o)=(H.rd b).bind fun c=>atN c o 64:=loadN ag121 sz121 _ rfl
theorem ld77 {H:AHeap} {b o:Nat}:loadA Try.prog 77 H (vptr b o)=(H.rd b).bind fun c=>atN c o 2:=loadN ag77 sz77 _ rfl
theorem ld147 {H:AHeap} {b o:Nat}:loadA Try.prog 147 H (vptr b o)=(H.rd b).bind fun c=>at1 c o:=load1 ag147 _ rfl
theorem ld161 {H:AHeap} {b o:Nat}:loadA Try.prog 161 H (vptr b o)=(H.rd b).bind fun c=>atN c o 1:=loadN ag161 sz161 _ rfl
theorem ld5 {H:AHeap} {b o:Nat}:loadA Try.prog 5 H (vptr b o)=(H.rd b).bind fun c=>at1 c o:=load1 ag5 _ rfl
theorem ld127 {H:AHeap} {b o:Nat}:loadA Try.prog 127 H (vptr b o)=(H.rd b).bind fun c=>at1 c o:=load1 ag127 _ rfl
theorem ld129 {H:AHeap} {b o:Nat}:loadA Try.prog 129 H (vptr b o)=(H.rd b).bind fun c=>atN c o 2:=loadN ag129 sz129 _ rfl
theorem ld159 {H:AHeap} {b o:Nat}:loadA Try.prog 159 H (vptr b o)=(H.rd b).bind fun c=>at1 c o:=load1 ag159 _ rfl
theorem st26 {H:AHeap} {b o:Nat} {x:Value}:storeA Try.prog 26 H (vptr b o) x=stG H b o 2 x (H.get b):=store_of sz26
theorem st24 {H:AHeap} {b o:Nat} {x:Value}:storeA Try.prog 24 H (vptr b o) x=stG H b o 2 x (H.get b):=store_of sz24
theorem st48 {H:AHeap} {b o:Nat} {x:Value}:storeA Try.prog 48 H (vptr b o) x=stG H b o 5 x (H.get b):=store_of sz48
theorem st3 {H:AHeap} {b o:Nat} {x:Value}:storeA Try.prog 3 H (vptr b o) x=stG H b o 1 x (H.get b):=store_of sz3
theorem st46 {H:AHeap} {b o:Nat} {x:Value}:storeA Try.prog 46 H (vptr b o) x=stG H b o 1 x (H.get b):=store_of sz46
theorem st4 {H:AHeap} {b o:Nat} {x:Value}:storeA Try.prog 4 H (vptr b o) x=stG H b o 1 x (H.get b):=store_of sz4
theorem st87 {H:AHeap} {b o:Nat} {x:Value}:storeA Try.prog 87 H (vptr b o) x=stG H b o 4 x (H.get b):=store_of sz87
theorem st61 {H:AHeap} {b o:Nat} {x:Value}:storeA Try.prog 61 H (vptr b o) x=stG H b o 4 x (H.get b):=store_of sz61
theorem st109 {H:AHeap} {b o:Nat} {x:Value}:storeA Try.prog 109 H (vptr b o) x=stG H b o 1 x (H.get b):=store_of sz109
theorem st38 {H:AHeap} {b o:Nat} {x:Value}:storeA Try.prog 38 H (vptr b o) x=stG H b o 1 x (H.get b):=store_of sz38
theorem st84 {H:AHeap} {b o:Nat} {x:Value}:storeA Try.prog 84 H (vptr b o) x=stG H b o 3 x (H.get b):=store_of sz84
theorem st45 {H:AHeap} {b o:Nat} {x:Value}:storeA Try.prog 45 H (vptr b o) x=stG H b o 1 x (H.get b):=store_of sz45
theorem st121x {H:AHeap} {b o:Nat} {x:Value}:storeA Try.prog 121 H (vptr b o) x=stG H b o 64 x (H.get b):=store_of sz121
theorem st77 {H:AHeap} {b o:Nat} {x:Value}:storeA Try.prog 77 H (vptr b o) x=stG H b o 2 x (H.get b):=store_of sz77
theorem st5 {H:AHeap} {b o:Nat} {x:Value}:storeA Try.prog 5 H (vptr b o) x=stG H b o 1 x (H.get b):=store_of sz5
theorem st147 {H:AHeap} {b o:Nat} {x:Value}:storeA Try.prog 147 H (vptr b o) x=stG H b o 1 x (H.get b):=store_of sz147
theorem st161 {H:AHeap} {b o:Nat} {x:Value}:storeA Try.prog 161 H (vptr b o) x=stG H b o 1 x (H.get b):=store_of sz161
theorem st127 {H:AHeap} {b o:Nat} {x:Value}:storeA Try.prog 127 H (vptr b o) x=stG H b o 1 x (H.get b):=store_of sz127
theorem st129 {H:AHeap} {b o:Nat} {x:Value}:storeA Try.prog 129 H (vptr b o) x=stG H b o 2 x (H.get b):=store_of sz129
theorem al24 {H:AHeap}:allocA Try.prog 24 H=some (vptr H.n 0,H.upd (H.n + 1) H.n (.cells ([.int .i64 0,.int .i64 0]:List Value) 24 .ex)):=alloc_of zr24 (by kernel_rfl)
theorem al48 {H:AHeap}:allocA Try.prog 48 H=some (vptr H.n 0,H.upd (H.n + 1) H.n (.cells ([.int .i64 0,.int .i64 0,.int .i64 0] ++ [.slice none 0 0,.slice none 0 0]:List Value) 48 .ex)):=alloc_of zr48 (by kernel_rfl)
theorem al87 {H:AHeap}:allocA Try.prog 87 H=some (vptr H.n 0,H.upd (H.n + 1) H.n (.cells ([.slice none 0 0] ++ [.int .i64 0,.int .i64 0,.int .i64 0]:List Value) 87 .ex)):=alloc_of zr87 (by kernel_rfl)
theorem al3 {H:AHeap}:allocA Try.prog 3 H=some (vptr H.n 0,H.upd (H.n + 1) H.n (.cells ([.int .i64 0]:List Value) 3 .ex)):=alloc_of zr3 (by kernel_rfl)
theorem al61 {H:AHeap}:allocA Try.prog 61 H=some (vptr H.n 0,H.upd (H.n + 1) H.n (.cells ([.int .i64 0,.int .i64 0,.int .i64 0] ++ [.bool false]:List Value) 61 .ex)):=alloc_of zr61 (by kernel_rfl)
theorem al38 {H:AHeap}:allocA Try.prog 38 H=some (vptr H.n 0,H.upd (H.n + 1) H.n (.cells ([.int .i64 0]:List Value) 38 .ex)):=alloc_of zr38 (by kernel_rfl)
theorem al26 {H:AHeap}:allocA Try.prog 26 H=some (vptr H.n 0,H.upd (H.n + 1) H.n (.cells ([.int .i64 0,.int .i64 0]:List Value) 26 .ex)):=alloc_of zr26 (by kernel_rfl)
theorem al84 {H:AHeap}:allocA Try.prog 84 H=some (vptr H.n 0,H.upd (H.n + 1) H.n (.cells ([.int .i64 0,.int .i64 0] ++ [.bool false]:List Value) 84 .ex)):=alloc_of zr84 (by kernel_rfl)
theorem al121 {H:AHeap}:allocA Try.prog 121 H=some (vptr H.n 0,H.upd (H.n + 1) H.n (.cells ([.bool false,.bool false,.bool false,.bool false,.bool false,.bool false,.bool false,.bool false,.bool false,.bool false,.bool false,.bool false,.bool false,.bool false,.bool false,.bool false,.bool false,.bool false,.bool false,.bool false,.bool false,.bool false,.bool false,.bool false,.bool false,.bool false,.bool false,.bool false,.bool false,.bool false,.bool false,.bool false,.bool false,.bool false,.bool false,.bool false,.bool false,.bool false,.bool false,.bool false,.bool false,.bool false,.bool false,.bool false,.bool false,.bool false,.bool false,.bool false,.bool false,.bool false,.bool false,.bool false,.bool false,.bool false,.bool false,.bool false,.bool false,.bool false,.bool false,.bool false,.bool false,.bool false,.bool false,.bool false]:List Value) 121 .ex)):=alloc_of zr121 (by kernel_rfl)
theorem al77 {H:AHeap}:allocA Try.prog 77 H=some (vptr H.n 0,H.upd (H.n + 1) H.n (.cells ([.string .empty] ++ [.int .i64 0]:List Value) 77 .ex)):=alloc_of zr77 (by kernel_rfl)
theorem al147 {H:AHeap}:allocA Try.prog 147 H=some (vptr H.n 0,H.upd (H.n + 1) H.n (.cells ([.slice none 0 0]:List Value) 147 .ex)):=alloc_of zr147 (by kernel_rfl)
theorem al161 {H:AHeap}:allocA Try.prog 161 H=some (vptr H.n 0,H.upd (H.n + 1) H.n (.cells ([.nilFunc]:List Value) 161 .ex)):=alloc_of zr161 (by kernel_rfl)
theorem al127 {H:AHeap}:allocA Try.prog 127 H=some (vptr H.n 0,H.upd (H.n + 1) H.n (.cells ([.map none]:List Value) 127 .ex)):=alloc_of zr127 (by kernel_rfl)
theorem al129 {H:AHeap}:allocA Try.prog 129 H=some (vptr H.n 0,H.upd (H.n + 1) H.n (.cells ([.int .i64 0,.int .i64 0]:List Value) 129 .ex)):=alloc_of zr129 (by kernel_rfl)
theorem fa26_0 {b o:Nat}:fieldAddrA Try.prog 26 (vptr b o) 0=some (vptr b (o + 0)):=fieldAddr_of und26 (f:=0) (fd:=(fs26[0]?).getD default) (by kernel_rfl) (sz:=1) (by kernel_rfl) (by decide) (by kernel_rfl)
theorem fa24_0 {b o:Nat}:fieldAddrA Try.prog 24 (vptr b o) 0=some (vptr b (o + 0)):=fieldAddr_of und24 (f:=0) (fd:=(fs24[0]?).getD default) (by kernel_rfl) (sz:=1) (by kernel_rfl) (by decide) (by kernel_rfl)
theorem fa24_1 {b o:Nat}:fieldAddrA Try.prog 24 (vptr b o) 1=some (vptr b (o + 1)):=fieldAddr_of und24 (f:=1) (fd:=(fs24[1]?).getD default) (by kernel_rfl) (sz:=1) (by kernel_rfl) (by decide) (by kernel_rfl)
theorem fa48_1 {b o:Nat}:fieldAddrA Try.prog 48 (vptr b o) 1=some (vptr b (o + 1)):=fieldAddr_of und48 (f:=1) (fd:=(fs48[1]?).getD default) (by kernel_rfl) (sz:=1) (by kernel_rfl) (by decide) (by kernel_rfl)
theorem fa48_0 {b o:Nat}:fieldAddrA Try.prog 48 (vptr b o) 0=some (vptr b (o + 0)):=fieldAddr_of und48 (f:=0) (fd:=(fs48[0]?).getD default) (by kernel_rfl) (sz:=1) (by kernel_rfl) (by decide) (by kernel_rfl)
theorem fa48_4 {b o:Nat}:fieldAddrA Try.prog 48 (vptr b o) 4=some (vptr b (o + 4)):=fieldAddr_of und48 (f:=4) (fd:=(fs48[4]?).getD default) (by kernel_rfl) (sz:=1) (by kernel_rfl) (by decide) (by kernel_rfl)
theorem fa48_2 {b o:Nat}:fieldAddrA Try.prog 48 (vptr b o) 2=some (vptr b (o + 2)):=fieldAddr_of und48 (f:=2) (fd:=(fs48[2]?).getD default) (by kernel_rfl) (sz:=1) (by kernel_rfl) (by decide) (by kernel_rfl)
theorem fa77_0 {b o:Nat}:fieldAddrA Try.prog 77 (vptr b o) 0=some (vptr b (o + 0)):=fieldAddr_of und77 (f:=0) (fd:=(fs77[0]?).getD default) (by kernel_rfl) (sz:=1) (by kernel_rfl) (by decide) (by kernel_rfl)
theorem fa77_1 {b o:Nat}:fieldAddrA Try.prog 77 (vptr b o) 1=some (vptr b (o + 1)):=fieldAddr_of und77 (f:=1) (fd:=(fs77[1]?).getD default) (by kernel_rfl) (sz:=1) (by kernel_rfl) (by decide) (by kernel_rfl)
theorem fa48_3 {b o:Nat}:fieldAddrA Try.prog 48 (vptr b o) 3=some (vptr b (o + 3)):=fieldAddr_of und48 (f:=3) (fd:=(fs48[3]?).getD default) (by kernel_rfl) (sz:=1) (by kernel_rfl) (by decide) (by kernel_rfl)
theorem fa84_2 {b o:Nat}:fieldAddrA Try.prog 84 (vptr b o) 2=some (vptr b (o + 2)):=fieldAddr_of und84 (f:=2) (fd:=(fs84[2]?).getD default) (by kernel_rfl) (sz:=1) (by kernel_rfl) (by decide) (by kernel_rfl)
theorem fa87_0 {b o:Nat}:fieldAddrA Try.prog 87 (vptr b o) 0=some (vptr b (o + 0)):=fieldAddr_of und87 (f:=0) (fd:=(fs87[0]?).getD default) (by kernel_rfl) (sz:=1) (by kernel_rfl) (by decide) (by kernel_rfl)
theorem fa87_2 {b o:Nat}:fieldAddrA Try.prog 87 (vptr b o) 2=some (vptr b (o + 2)):=fieldAddr_of und87 (f:=2) (fd:=(fs87[2]?).getD default) (by kernel_rfl) (sz:=1) (by kernel_rfl) (by decide) (by kernel_rfl)
theorem fa61_1 {b o:Nat}:fieldAddrA Try.prog 61 (vptr b o) 1=some (vptr b (o + 1)):=fieldAddr_of und61 (f:=1) (fd:=(fs61[1]?).getD default) (by kernel_rfl) (sz:=1) (by kernel_rfl) (by decide) (by kernel_rfl)
theorem fa61_2 {b o:Nat}:fieldAddrA Try.prog 61 (vptr b o) 2=some (vptr b (o + 2)):=fieldAddr_of und61 (f:=2) (fd:=(fs61[2]?).getD default) (by kernel_rfl) (sz:=1) (by kernel_rfl) (by decide) (by kernel_rfl)
theorem fa61_0 {b o:Nat}:fieldAddrA Try.prog 61 (vptr b o) 0=some (vptr b (o + 0)):=fieldAddr_of und61 (f:=0) (fd:=(fs61[0]?).getD default) (by kernel_rfl) (sz:=1) (by kernel_rfl) (by decide) (by kernel_rfl)
theorem fa61_3 {b o:Nat}:fieldAddrA Try.prog 61 (vptr b o) 3=some (vptr b (o + 3)):=fieldAddr_of und61 (f:=3) (fd:=(fs61[3]?).getD default) (by kernel_rfl) (sz:=1) (by kernel_rfl) (by decide) (by kernel_rfl)
theorem fa111_0 {b o:Nat}:fieldAddrA Try.prog 111 (vptr b o) 0=some (vptr b (o + 0)):=fieldAddr_of und111 (f:=0) (fd:=(fs111[0]?).getD default) (by kernel_rfl) (sz:=1) (by kernel_rfl) (by decide) (by kernel_rfl)
theorem fa26_1 {b o:Nat}:fieldAddrA Try.prog 26 (vptr b o) 1=some (vptr b (o + 1)):=fieldAddr_of und26 (f:=1) (fd:=(fs26[1]?).getD default) (by kernel_rfl) (sz:=1) (by kernel_rfl) (by decide) (by kernel_rfl)
theorem fa84_0 {b o:Nat}:fieldAddrA Try.prog 84 (vptr b o) 0=some (vptr b (o + 0)):=fieldAddr_of und84 (f:=0) (fd:=(fs84[0]?).getD default) (by kernel_rfl) (sz:=1) (by kernel_rfl) (by decide) (by kernel_rfl)
theorem fa84_1 {b o:Nat}:fieldAddrA Try.prog 84 (vptr b o) 1=some (vptr b (o + 1)):=fieldAddr_of und84 (f:=1) (fd:=(fs84[1]?).getD default) (by kernel_rfl) (sz:=1) (by kernel_rfl) (by decide) (by kernel_rfl)
theorem fa87_1 {b o:Nat}:fieldAddrA Try.prog 87 (vptr b o) 1=some (vptr b (o + 1)):=fieldAddr_of und87 (f:=1) (fd:=(fs87[1]?).getD default) (by kernel_rfl) (sz:=1) (by kernel_rfl) (by decide) (by kernel_rfl)
theorem fa87_3 {b o:Nat}:fieldAddrA Try.prog 87 (vptr b o) 3=some (vptr b (o + 3)):=fieldAddr_of und87 (f:=3) (fd:=(fs87[3]?).getD default) (by kernel_rfl) (sz:=1) (by kernel_rfl) (by decide) (by kernel_rfl)
theorem fa161_0 {b o:Nat}:fieldAddrA Try.prog 161 (vptr b o) 0=some (vptr b (o + 0)):=fieldAddr_of und161 (f:=0) (fd:=(fs161[0]?).getD default) (by kernel_rfl) (sz:=1) (by kernel_rfl) (by decide) (by kernel_rfl)
theorem ia22 {b o n c:Nat} {k:IntKind} {i:Int} (h0:0≤i) (h1:i < n):indexAddrA Try.prog 22 (.slice (some ⟨b,o,none⟩) n c) (.int k i)=some (vptr b (o + i.toNat * 2)):=indexAddrA_sl und22 sz26 h0 h1
theorem ia27 {b o n c:Nat} {k:IntKind} {i:Int} (h0:0≤i) (h1:i < n):indexAddrA Try.prog 27 (.slice (some ⟨b,o,none⟩) n c) (.int k i)=some (vptr b (o + i.toNat * 1)):=indexAddrA_sl und27 sz3 h0 h1
theorem ia37 {b o n c:Nat} {k:IntKind} {i:Int} (h0:0≤i) (h1:i < n):indexAddrA Try.prog 37 (.slice (some ⟨b,o,none⟩) n c) (.int k i)=some (vptr b (o + i.toNat * 2)):=indexAddrA_sl und37 sz24 h0 h1
theorem ia62 {b o n c:Nat} {k:IntKind} {i:Int} (h0:0≤i) (h1:i < n):indexAddrA Try.prog 62 (.slice (some ⟨b,o,none⟩) n c) (.int k i)=some (vptr b (o + i.toNat * 2)):=indexAddrA_sl und62 sz77 h0 h1
theorem ia63 {b o n c:Nat} {k:IntKind} {i:Int} (h0:0≤i) (h1:i < n):indexAddrA Try.prog 63 (.slice (some ⟨b,o,none⟩) n c) (.int k i)=some (vptr b (o + i.toNat * 1)):=indexAddrA_sl und63 sz9 h0 h1
theorem ia45 {b o n c:Nat} {k:IntKind} {i:Int} (h0:0≤i) (h1:i < n):indexAddrA Try.prog 45 (.slice (some ⟨b,o,none⟩) n c) (.int k i)=some (vptr b (o + i.toNat * 3)):=indexAddrA_sl und45 sz84 h0 h1
theorem ia46 {b o n c:Nat} {k:IntKind} {i:Int} (h0:0≤i) (h1:i < n):indexAddrA Try.prog 46 (.slice (some ⟨b,o,none⟩) n c) (.int k i)=some (vptr b (o + i.toNat * 4)):=indexAddrA_sl und46 sz61 h0 h1
theorem ia131 {b o n c:Nat} {k:IntKind} {i:Int} (h0:0≤i) (h1:i < n):indexAddrA Try.prog 131 (.slice (some ⟨b,o,none⟩) n c) (.int k i)=some (vptr b (o + i.toNat * 1)):=indexAddrA_sl und131 sz5 h0 h1
theorem ia147 {b o n c:Nat} {k:IntKind} {i:Int} (h0:0≤i) (h1:i < n):indexAddrA Try.prog 147 (.slice (some ⟨b,o,none⟩) n c) (.int k i)=some (vptr b (o + i.toNat * 51)):=indexAddrA_sl und147 sz148 h0 h1
theorem ia148 {b o:Nat} {k:IntKind} {i:Int} (h0:0≤i) (h1:i < 51):indexAddrA Try.prog 148 (vptr b o) (.int k i)=some (vptr b (o + i.toNat * 1)):=indexAddrA_arr und148 sz3 h0 h1
theorem ia121 {b o:Nat} {k:IntKind} {i:Int} (h0:0≤i) (h1:i < 8):indexAddrA Try.prog 121 (vptr b o) (.int k i)=some (vptr b (o + i.toNat * 8)):=indexAddrA_arr und121 sz119 h0 h1
theorem ia119 {b o:Nat} {k:IntKind} {i:Int} (h0:0≤i) (h1:i < 8):indexAddrA Try.prog 119 (vptr b o) (.int k i)=some (vptr b (o + i.toNat * 1)):=indexAddrA_arr und119 sz4 h0 h1
theorem ias22 {H:AHeap} {n:Nat} {v:Value} {c:List Value} (h:SR H 2 n v c) {k:IntKind} {i:Int} (h0:0≤i) (h1:i < n):indexAddrA Try.prog 22 v (.int k i)=some (vptr (vblk v) (voff v + i.toNat * 2)):=h.indexAddr und22 sz26 h0 h1
theorem ias27 {H:AHeap} {n:Nat} {v:Value} {c:List Value} (h:SR H 1 n v c) {k:IntKind} {i:Int} (h0:0≤i) (h1:i < n):indexAddrA Try.prog 27 v (.int k i)=some (vptr (vblk v) (voff v + i.toNat * 1)):=h.indexAddr und27 sz3 h0 h1
theorem ias37 {H:AHeap} {n:Nat} {v:Value} {c:List Value} (h:SR H 2 n v c) {k:IntKind} {i:Int} (h0:0≤i) (h1:i < n):indexAddrA Try.prog 37 v (.int k i)=some (vptr (vblk v) (voff v + i.toNat * 2)):=h.indexAddr und37 sz24 h0 h1
theorem ias62 {H:AHeap} {n:Nat} {v:Value} {c:List Value} (h:SR H 2 n v c) {k:IntKind} {i:Int} (h0:0≤i) (h1:i < n):indexAddrA Try.prog 62 v (.int k i)=some (vptr (vblk v) (voff v + i.toNat * 2)):=h.indexAddr und62 sz77 h0 h1
theorem ias63 {H:AHeap} {n:Nat} {v:Value} {c:List Value} (h:SR H 1 n v c) {k:IntKind} {i:Int} (h0:0≤i) (h1:i < n):indexAddrA Try.prog 63 v (.int k i)=some (vptr (vblk v) (voff v + i.toNat * 1)):=h.indexAddr und63 sz9 h0 h1
theorem ias45 {H:AHeap} {n:Nat} {v:Value} {c:List Value} (h:SR H 3 n v c) {k:IntKind} {i:Int} (h0:0≤i) (h1:i < n):indexAddrA Try.prog 45 v (.int k i)=some (vptr (vblk v) (voff v + i.toNat * 3)):=h.indexAddr und45 sz84 h0 h1
theorem ias46 {H:AHeap} {n:Nat} {v:Value} {c:List Value} (h:SR H 4 n v c) {k:IntKind} {i:Int} (h0:0≤i) (h1:i < n):indexAddrA Try.prog 46 v (.int k i)=some (vptr (vblk v) (voff v + i.toNat * 4)):=h.indexAddr und46 sz61 h0 h1
theorem ln22 {H:AHeap} {a:Option Addr} {n c:Nat}:lenV Try.prog 22 (.slice a n c) H=some (.int .i64 n):=len_sl und22
theorem ln62 {H:AHeap} {a:Option Addr} {n c:Nat}:lenV Try.prog 62 (.slice a n c) H=some (.int .i64 n):=len_sl und62
theorem ln63 {H:AHeap} {a:Option Addr} {n c:Nat}:lenV Try.prog 63 (.slice a n c) H=some (.int .i64 n):=len_sl und63
theorem ln27 {H:AHeap} {a:Option Addr} {n c:Nat}:lenV Try.prog 27 (.slice a n c) H=some (.int .i64 n):=len_sl und27
theorem ln9 {H:AHeap} {s:ByteArray}:lenV Try.prog 9 (.string s) H=some (.int .i64 s.size):=len_str und9
theorem ln46 {H:AHeap} {a:Option Addr} {n c:Nat}:lenV Try.prog 46 (.slice a n c) H=some (.int .i64 n):=len_sl und46
theorem ln45 {H:AHeap} {a:Option Addr} {n c:Nat}:lenV Try.prog 45 (.slice a n c) H=some (.int .i64 n):=len_sl und45
theorem ln37 {H:AHeap} {a:Option Addr} {n c:Nat}:lenV Try.prog 37 (.slice a n c) H=some (.int .i64 n):=len_sl und37
theorem lns22 {H H':AHeap} {s n:Nat} {v:Value} {c:List Value} (h:SR H s n v c):lenV Try.prog 22 v H'=some (.int .i64 n):=h.lenV und22
theorem lns62 {H H':AHeap} {s n:Nat} {v:Value} {c:List Value} (h:SR H s n v c):lenV Try.prog 62 v H'=some (.int .i64 n):=h.lenV und62
theorem lns63 {H H':AHeap} {s n:Nat} {v:Value} {c:List Value} (h:SR H s n v c):lenV Try.prog 63 v H'=some (.int .i64 n):=h.lenV und63
theorem lns27 {H H':AHeap} {s n:Nat} {v:Value} {c:List Value} (h:SR H s n v c):lenV Try.prog 27 v H'=some (.int .i64 n):=h.lenV und27
theorem lns46 {H H':AHeap} {s n:Nat} {v:Value} {c:List Value} (h:SR H s n v c):lenV Try.prog 46 v H'=some (.int .i64 n):=h.lenV und46
theorem lns45 {H H':AHeap} {s n:Nat} {v:Value} {c:List Value} (h:SR H s n v c):lenV Try.prog 45 v H'=some (.int .i64 n):=h.lenV und45
theorem lns37 {H H':AHeap} {s n:Nat} {v:Value} {c:List Value} (h:SR H s n v c):lenV Try.prog 37 v H'=some (.int .i64 n):=h.lenV und37
theorem eq4 {x y:Operand} {p q:Bool}:bopA Try.prog .eql 4 x y (.bool p) (.bool q)=some (.bool (decide (p=q))):=bop_eqlB und4
theorem ne4 {x y:Operand} {p q:Bool}:bopA Try.prog .neq 4 x y (.bool p) (.bool q)=some (.bool (decide (p≠q))):=bop_neqB und4
theorem eqs24 {x y:Operand} {a0 b0:Int} {a1 b1:Int}:bopA Try.prog .eql 24 x y (.agg ⟨[.int .i64 a0,.int .i64 a1]⟩) (.agg ⟨[.int .i64 b0,.int .i64 b1]⟩)=some (.bool (decide (a0=b0) && (decide (a1=b1) && (true))))∧bopA Try.prog .neq 24 x y (.agg ⟨[.int .i64 a0,.int .i64 a1]⟩) (.agg ⟨[.int .i64 b0,.int .i64 b1]⟩)=some (.bool !(decide (a0=b0) && (decide (a1=b1) && (true)))):=bop_eqlS und24 (by kernel_rfl) (by kernel_rfl) (by simp [dflat,flat]) (by simp [dflat,flat]) (by rw [(show eqList fs24=[(3,0),(3,1)] by kernel_rfl),eqPs_int (a:=a0) (b:=b0) ag3 und3 rfl rfl,eqPs_int (a:=a1) (b:=b1) ag3 und3 rfl rfl,eqPs_nil];simp only [Option.bind_some,ite_some,ite_someB,Bool.decide_eq_true])
theorem bd26 {parts:List (Nat×Value)}:buildA Try.prog 26 parts=(fillL [(0,1),(1,1)] ((.agg ([.int .i64 0,.int .i64 0]:List Value).toArray):Value).cells.toList parts).map fun c=>.agg c.toArray:=build_of zr26 (by kernel_rfl) und26 (by kernel_rfl)
theorem bd61 {parts:List (Nat×Value)}:buildA Try.prog 61 parts=(fillL [(0,1),(1,1),(2,1),(3,1)] ((.agg ([.int .i64 0,.int .i64 0,.int .i64 0] ++ [.bool false]:List Value).toArray):Value).cells.toList parts).map fun c=>.agg c.toArray:=build_of zr61 (by kernel_rfl) und61 (by kernel_rfl)
theorem bd111 {parts:List (Nat×Value)}:buildA Try.prog 111 parts=(fillL [(0,1)] ((.agg ([.int .u64 0]:List Value).toArray):Value).cells.toList parts).map fun c=>.agg c.toArray:=build_of zr111 (by kernel_rfl) und111 (by kernel_rfl)
theorem bd24 {parts:List (Nat×Value)}:buildA Try.prog 24 parts=(fillL [(0,1),(1,1)] ((.agg ([.int .i64 0,.int .i64 0]:List Value).toArray):Value).cells.toList parts).map fun c=>.agg c.toArray:=build_of zr24 (by kernel_rfl) und24 (by kernel_rfl)
theorem bd48 {parts:List (Nat×Value)}:buildA Try.prog 48 parts=(fillL [(0,1),(1,1),(2,1),(3,1),(4,1)] ((.agg ([.int .i64 0,.int .i64 0,.int .i64 0] ++ [.slice none 0 0,.slice none 0 0]:List Value).toArray):Value).cells.toList parts).map fun c=>.agg c.toArray:=build_of zr48 (by kernel_rfl) und48 (by kernel_rfl)
theorem bd84 {parts:List (Nat×Value)}:buildA Try.prog 84 parts=(fillL [(0,1),(1,1),(2,1)] ((.agg ([.int .i64 0,.int .i64 0] ++ [.bool false]:List Value).toArray):Value).cells.toList parts).map fun c=>.agg c.toArray:=build_of zr84 (by kernel_rfl) und84 (by kernel_rfl)
theorem bd129 {parts:List (Nat×Value)}:buildA Try.prog 129 parts=(fillL [(0,1),(1,1)] ((.agg ([.int .i64 0,.int .i64 0]:List Value).toArray):Value).cells.toList parts).map fun c=>.agg c.toArray:=build_of zr129 (by kernel_rfl) und129 (by kernel_rfl)
theorem bd77 {parts:List (Nat×Value)}:buildA Try.prog 77 parts=(fillL [(0,1),(1,1)] ((.agg ([.string .empty] ++ [.int .i64 0]:List Value).toArray):Value).cells.toList parts).map fun c=>.agg c.toArray:=build_of zr77 (by kernel_rfl) und77 (by kernel_rfl)
theorem bd87 {parts:List (Nat×Value)}:buildA Try.prog 87 parts=(fillL [(0,1),(1,1),(2,1),(3,1)] ((.agg ([.slice none 0 0] ++ [.int .i64 0,.int .i64 0,.int .i64 0]:List Value).toArray):Value).cells.toList parts).map fun c=>.agg c.toArray:=build_of zr87 (by kernel_rfl) und87 (by kernel_rfl)
theorem bd161 {parts:List (Nat×Value)}:buildA Try.prog 161 parts=(fillL [(0,1)] ((.agg ([.nilFunc]:List Value).toArray):Value).cells.toList parts).map fun c=>.agg c.toArray:=build_of zr161 (by kernel_rfl) und161 (by kernel_rfl)
theorem bd61_0_1_2_3 {x0:Value} {x1:Value} {x2:Value} {x3:Value} (h0:one x0) (h1:one x1) (h2:one x2) (h3:one x3):buildA Try.prog 61 [(0,x0),(1,x1),(2,x2),(3,x3)]=some (.agg ⟨[x0,x1,x2,x3]⟩):=by rw [bd61];rw [fillL_one rfl h0 (by simp [*,zs_len,splice_length,Value.cells])];rw [fillL_one rfl h1 (by simp [*,zs_len,splice_length,Value.cells])];rw [fillL_one rfl h2 (by simp [*,zs_len,splice_length,Value.cells])];rw [fillL_one rfl h3 (by simp [*,zs_len,splice_length,Value.cells])];simp [fillL_nil,splice,zs_len,Value.cells,List.drop_append, *]
theorem bd111_0 {x0:Value} (h0:one x0):buildA Try.prog 111 [(0,x0)]=some (.agg ⟨[x0]⟩):=by rw [bd111];rw [fillL_one rfl h0 (by simp [*,zs_len,splice_length,Value.cells])];simp [fillL_nil,splice,zs_len,Value.cells,List.drop_append, *]
theorem bd26_0_1 {x0:Value} {x1:Value} (h0:one x0) (h1:one x1):buildA Try.prog 26 [(0,x0),(1,x1)]=some (.agg ⟨[x0,x1]⟩):=by rw [bd26];rw [fillL_one rfl h0 (by simp [*,zs_len,splice_length,Value.cells])];rw [fillL_one rfl h1 (by simp [*,zs_len,splice_length,Value.cells])];simp [fillL_nil,splice,zs_len,Value.cells,List.drop_append, *]
theorem bd24_0_1 {x0:Value} {x1:Value} (h0:one x0) (h1:one x1):buildA Try.prog 24 [(0,x0),(1,x1)]=some (.agg ⟨[x0,x1]⟩):=by rw [bd24];rw [fillL_one rfl h0 (by simp [*,zs_len,splice_length,Value.cells])];rw [fillL_one rfl h1 (by simp [*,zs_len,splice_length,Value.cells])];simp [fillL_nil,splice,zs_len,Value.cells,List.drop_append, *]
theorem bd24_  :buildA Try.prog 24 []=some (.agg ⟨[.int .i64 0,.int .i64 0]⟩):=by rw [bd24];simp [fillL_nil,splice,zs_len,Value.cells,List.drop_append, *]
theorem bd48_0_1_2 {x0:Value} {x1:Value} {x2:Value} (h0:one x0) (h1:one x1) (h2:one x2):buildA Try.prog 48 [(0,x0),(1,x1),(2,x2)]=some (.agg ⟨[x0,x1,x2,.slice none 0 0,.slice none 0 0]⟩):=by rw [bd48];rw [fillL_one rfl h0 (by simp [*,zs_len,splice_length,Value.cells])];rw [fillL_one rfl h1 (by simp [*,zs_len,splice_length,Value.cells])];rw [fillL_one rfl h2 (by simp [*,zs_len,splice_length,Value.cells])];simp [fillL_nil,splice,zs_len,Value.cells,List.drop_append, *]
theorem bd84_0_1_2 {x0:Value} {x1:Value} {x2:Value} (h0:one x0) (h1:one x1) (h2:one x2):buildA Try.prog 84 [(0,x0),(1,x1),(2,x2)]=some (.agg ⟨[x0,x1,x2]⟩):=by rw [bd84];rw [fillL_one rfl h0 (by simp [*,zs_len,splice_length,Value.cells])];rw [fillL_one rfl h1 (by simp [*,zs_len,splice_length,Value.cells])];rw [fillL_one rfl h2 (by simp [*,zs_len,splice_length,Value.cells])];simp [fillL_nil,splice,zs_len,Value.cells,List.drop_append, *]
theorem bd129_0_1 {x0:Value} {x1:Value} (h0:one x0) (h1:one x1):buildA Try.prog 129 [(0,x0),(1,x1)]=some (.agg ⟨[x0,x1]⟩):=by rw [bd129];rw [fillL_one rfl h0 (by simp [*,zs_len,splice_length,Value.cells])];rw [fillL_one rfl h1 (by simp [*,zs_len,splice_length,Value.cells])];simp [fillL_nil,splice,zs_len,Value.cells,List.drop_append, *]
theorem bd77_0_1 {x0:Value} {x1:Value} (h0:one x0) (h1:one x1):buildA Try.prog 77 [(0,x0),(1,x1)]=some (.agg ⟨[x0,x1]⟩):=by rw [bd77];rw [fillL_one rfl h0 (by simp [*,zs_len,splice_length,Value.cells])];rw [fillL_one rfl h1 (by simp [*,zs_len,splice_length,Value.cells])];simp [fillL_nil,splice,zs_len,Value.cells,List.drop_append, *]
theorem bd84_1_2 {x0:Value} {x1:Value} (h0:one x0) (h1:one x1):buildA Try.prog 84 [(1,x0),(2,x1)]=some (.agg ⟨[.int .i64 0,x0,x1]⟩):=by rw [bd84];rw [fillL_one rfl h0 (by simp [*,zs_len,splice_length,Value.cells])];rw [fillL_one rfl h1 (by simp [*,zs_len,splice_length,Value.cells])];simp [fillL_nil,splice,zs_len,Value.cells,List.drop_append, *]
theorem bd84_0_1 {x0:Value} {x1:Value} (h0:one x0) (h1:one x1):buildA Try.prog 84 [(0,x0),(1,x1)]=some (.agg ⟨[x0,x1,.bool false]⟩):=by rw [bd84];rw [fillL_one rfl h0 (by simp [*,zs_len,splice_length,Value.cells])];rw [fillL_one rfl h1 (by simp [*,zs_len,splice_length,Value.cells])];simp [fillL_nil,splice,zs_len,Value.cells,List.drop_append, *]
theorem bd61_2_3 {x0:Value} {x1:Value} (h0:one x0) (h1:one x1):buildA Try.prog 61 [(2,x0),(3,x1)]=some (.agg ⟨[.int .i64 0,.int .i64 0,x0,x1]⟩):=by rw [bd61];rw [fillL_one rfl h0 (by simp [*,zs_len,splice_length,Value.cells])];rw [fillL_one rfl h1 (by simp [*,zs_len,splice_length,Value.cells])];simp [fillL_nil,splice,zs_len,Value.cells,List.drop_append, *]
theorem bd61_0_1_2 {x0:Value} {x1:Value} {x2:Value} (h0:one x0) (h1:one x1) (h2:one x2):buildA Try.prog 61 [(0,x0),(1,x1),(2,x2)]=some (.agg ⟨[x0,x1,x2,.bool false]⟩):=by rw [bd61];rw [fillL_one rfl h0 (by simp [*,zs_len,splice_length,Value.cells])];rw [fillL_one rfl h1 (by simp [*,zs_len,splice_length,Value.cells])];rw [fillL_one rfl h2 (by simp [*,zs_len,splice_length,Value.cells])];simp [fillL_nil,splice,zs_len,Value.cells,List.drop_append, *]
theorem bd61_0_2_3 {x0:Value} {x1:Value} {x2:Value} (h0:one x0) (h1:one x1) (h2:one x2):buildA Try.prog 61 [(0,x0),(2,x1),(3,x2)]=some (.agg ⟨[x0,.int .i64 0,x1,x2]⟩):=by rw [bd61];rw [fillL_one rfl h0 (by simp [*,zs_len,splice_length,Value.cells])];rw [fillL_one rfl h1 (by simp [*,zs_len,splice_length,Value.cells])];rw [fillL_one rfl h2 (by simp [*,zs_len,splice_length,Value.cells])];simp [fillL_nil,splice,zs_len,Value.cells,List.drop_append, *]
theorem bd48_0_1_2_3_4 {x0:Value} {x1:Value} {x2:Value} {x3:Value} {x4:Value} (h0:one x0) (h1:one x1) (h2:one x2) (h3:one x3) (h4:one x4):buildA Try.prog 48 [(0,x0),(1,x1),(2,x2),(3,x3),(4,x4)]=some (.agg ⟨[x0,x1,x2,x3,x4]⟩):=by rw [bd48];rw [fillL_one rfl h0 (by simp [*,zs_len,splice_length,Value.cells])];rw [fillL_one rfl h1 (by simp [*,zs_len,splice_length,Value.cells])];rw [fillL_one rfl h2 (by simp [*,zs_len,splice_length,Value.cells])];rw [fillL_one rfl h3 (by simp [*,zs_len,splice_length,Value.cells])];rw [fillL_one rfl h4 (by simp [*,zs_len,splice_length,Value.cells])];simp [fillL_nil,splice,zs_len,Value.cells,List.drop_append, *]
theorem bd87_0_1_2_3 {x0:Value} {x1:Value} {x2:Value} {x3:Value} (h0:one x0) (h1:one x1) (h2:one x2) (h3:one x3):buildA Try.prog 87 [(0,x0),(1,x1),(2,x2),(3,x3)]=some (.agg ⟨[x0,x1,x2,x3]⟩):=by rw [bd87];rw [fillL_one rfl h0 (by simp [*,zs_len,splice_length,Value.cells])];rw [fillL_one rfl h1 (by simp [*,zs_len,splice_length,Value.cells])];rw [fillL_one rfl h2 (by simp [*,zs_len,splice_length,Value.cells])];rw [fillL_one rfl h3 (by simp [*,zs_len,splice_length,Value.cells])];simp [fillL_nil,splice,zs_len,Value.cells,List.drop_append, *]
theorem bd161_0 {x0:Value} (h0:one x0):buildA Try.prog 161 [(0,x0)]=some (.agg ⟨[x0]⟩):=by rw [bd161];rw [fillL_one rfl h0 (by simp [*,zs_len,splice_length,Value.cells])];simp [fillL_nil,splice,zs_len,Value.cells,List.drop_append, *]
theorem bs27_4 {H:AHeap} {x0:Value} {x1:Value} {x2:Value} {x3:Value} (h0:one x0) (h1:one x1) (h2:one x2) (h3:one x3):buildSliceA Try.prog 27 4 [(0,x0),(1,x1),(2,x2),(3,x3)] H=some (.slice (some ⟨H.n,0,none⟩) 4 4,H.upd (H.n + 1) H.n (.cells ([x0,x1,x2,x3]) 3 .ex)):=buildSlice_of und27 sz3 zr3 (by kernel_rfl) (by kernel_rfl) (by decide) (by decide) rfl (by simp [elts_one h0,elts_one h1,elts_one h2,elts_one h3,elts_nil])
theorem bs27_2 {H:AHeap} {x0:Value} {x1:Value} (h0:one x0) (h1:one x1):buildSliceA Try.prog 27 2 [(0,x0),(1,x1)] H=some (.slice (some ⟨H.n,0,none⟩) 2 2,H.upd (H.n + 1) H.n (.cells ([x0,x1]) 3 .ex)):=buildSlice_of und27 sz3 zr3 (by kernel_rfl) (by kernel_rfl) (by decide) (by decide) rfl (by simp [elts_one h0,elts_one h1,elts_nil])
theorem bs27_3 {H:AHeap} {x0:Value} {x1:Value} {x2:Value} (h0:one x0) (h1:one x1) (h2:one x2):buildSliceA Try.prog 27 3 [(0,x0),(1,x1),(2,x2)] H=some (.slice (some ⟨H.n,0,none⟩) 3 3,H.upd (H.n + 1) H.n (.cells ([x0,x1,x2]) 3 .ex)):=buildSlice_of und27 sz3 zr3 (by kernel_rfl) (by kernel_rfl) (by decide) (by decide) rfl (by simp [elts_one h0,elts_one h1,elts_one h2,elts_nil])
theorem bs46_1 {H:AHeap} {x0:List Value} (h0:x0.length=4):buildSliceA Try.prog 46 1 [(0,.agg ⟨x0⟩)] H=some (.slice (some ⟨H.n,0,none⟩) 1 1,H.upd (H.n + 1) H.n (.cells (x0) 61 .ex)):=buildSlice_of und46 sz61 zr61 (by kernel_rfl) (by kernel_rfl) (by decide) (by decide) rfl (by simp [elts_agg h0,elts_nil])
theorem bs27_1 {H:AHeap} {x0:Value} (h0:one x0):buildSliceA Try.prog 27 1 [(0,x0)] H=some (.slice (some ⟨H.n,0,none⟩) 1 1,H.upd (H.n + 1) H.n (.cells ([x0]) 3 .ex)):=buildSlice_of und27 sz3 zr3 (by kernel_rfl) (by kernel_rfl) (by decide) (by decide) rfl (by simp [elts_one h0,elts_nil])
theorem bs63_2 {H:AHeap} {x0:Value} {x1:Value} (h0:one x0) (h1:one x1):buildSliceA Try.prog 63 2 [(0,x0),(1,x1)] H=some (.slice (some ⟨H.n,0,none⟩) 2 2,H.upd (H.n + 1) H.n (.cells ([x0,x1]) 9 .ex)):=buildSlice_of und63 sz9 zr9 (by kernel_rfl) (by kernel_rfl) (by decide) (by decide) rfl (by simp [elts_one h0,elts_one h1,elts_nil])
theorem bs45_1 {H:AHeap} {x0:List Value} (h0:x0.length=3):buildSliceA Try.prog 45 1 [(0,.agg ⟨x0⟩)] H=some (.slice (some ⟨H.n,0,none⟩) 1 1,H.upd (H.n + 1) H.n (.cells (x0) 84 .ex)):=buildSlice_of und45 sz84 zr84 (by kernel_rfl) (by kernel_rfl) (by decide) (by decide) rfl (by simp [elts_agg h0,elts_nil])
theorem bs45_0 {H:AHeap}  :buildSliceA Try.prog 45 0 [] H=some (.slice (some ⟨H.n,0,none⟩) 0 0,H.upd (H.n + 1) H.n (.cells ([]) 84 .ex)):=buildSlice_of und45 sz84 zr84 (by kernel_rfl) (by kernel_rfl) (by decide) (by decide) rfl (by simp [elts_nil])
theorem bs46_0 {H:AHeap}  :buildSliceA Try.prog 46 0 [] H=some (.slice (some ⟨H.n,0,none⟩) 0 0,H.upd (H.n + 1) H.n (.cells ([]) 61 .ex)):=buildSlice_of und46 sz61 zr61 (by kernel_rfl) (by kernel_rfl) (by decide) (by decide) rfl (by simp [elts_nil])
theorem bs45_2 {H:AHeap} {x0:List Value} {x1:List Value} (h0:x0.length=3) (h1:x1.length=3):buildSliceA Try.prog 45 2 [(0,.agg ⟨x0⟩),(1,.agg ⟨x1⟩)] H=some (.slice (some ⟨H.n,0,none⟩) 2 2,H.upd (H.n + 1) H.n (.cells (x0 ++ x1) 84 .ex)):=buildSlice_of und45 sz84 zr84 (by kernel_rfl) (by kernel_rfl) (by decide) (by decide) rfl (by simp [elts_agg h0,elts_agg h1,elts_nil])
theorem bs46_5 {H:AHeap} {x0:List Value} {x1:List Value} {x2:List Value} {x3:List Value} {x4:List Value} (h0:x0.length=4) (h1:x1.length=4) (h2:x2.length=4) (h3:x3.length=4) (h4:x4.length=4):buildSliceA Try.prog 46 5 [(0,.agg ⟨x0⟩),(1,.agg ⟨x1⟩),(2,.agg ⟨x2⟩),(3,.agg ⟨x3⟩),(4,.agg ⟨x4⟩)] H=some (.slice (some ⟨H.n,0,none⟩) 5 5,H.upd (H.n + 1) H.n (.cells (x0 ++ x1 ++ x2 ++ x3 ++ x4) 61 .ex)):=buildSlice_of und46 sz61 zr61 (by kernel_rfl) (by kernel_rfl) (by decide) (by decide) rfl (by simp [elts_agg h0,elts_agg h1,elts_agg h2,elts_agg h3,elts_agg h4,elts_nil])
theorem bs62_3 {H:AHeap} {x0:List Value} {x1:List Value} {x2:List Value} (h0:x0.length=2) (h1:x1.length=2) (h2:x2.length=2):buildSliceA Try.prog 62 3 [(0,.agg ⟨x0⟩),(1,.agg ⟨x1⟩),(2,.agg ⟨x2⟩)] H=some (.slice (some ⟨H.n,0,none⟩) 3 3,H.upd (H.n + 1) H.n (.cells (x0 ++ x1 ++ x2) 77 .ex)):=buildSlice_of und62 sz77 zr77 (by kernel_rfl) (by kernel_rfl) (by decide) (by decide) rfl (by simp [elts_agg h0,elts_agg h1,elts_agg h2,elts_nil])
theorem bs37_3 {H:AHeap} {x0:List Value} {x1:List Value} {x2:List Value} (h0:x0.length=2) (h1:x1.length=2) (h2:x2.length=2):buildSliceA Try.prog 37 3 [(0,.agg ⟨x0⟩),(1,.agg ⟨x1⟩),(2,.agg ⟨x2⟩)] H=some (.slice (some ⟨H.n,0,none⟩) 3 3,H.upd (H.n + 1) H.n (.cells (x0 ++ x1 ++ x2) 24 .ex)):=buildSlice_of und37 sz24 zr24 (by kernel_rfl) (by kernel_rfl) (by decide) (by decide) rfl (by simp [elts_agg h0,elts_agg h1,elts_agg h2,elts_nil])
theorem bs22_2 {H:AHeap} {x0:List Value} {x1:List Value} (h0:x0.length=2) (h1:x1.length=2):buildSliceA Try.prog 22 2 [(0,.agg ⟨x0⟩),(1,.agg ⟨x1⟩)] H=some (.slice (some ⟨H.n,0,none⟩) 2 2,H.upd (H.n + 1) H.n (.cells (x0 ++ x1) 26 .ex)):=buildSlice_of und22 sz26 zr26 (by kernel_rfl) (by kernel_rfl) (by decide) (by decide) rfl (by simp [elts_agg h0,elts_agg h1,elts_nil])
theorem ms147 {H:AHeap} {k k':IntKind} {n m:Int} (h1:0≤n) (h2:n≤m) (h3:m≤1099511627776) (h4:408 * m≤1099511627776):makeSliceA Try.prog 147 (.int k n) (.int k' m) H=some (.slice (some ⟨H.n,0,none⟩) n.toNat m.toNat,H.upd (H.n + 1) H.n (.cells (zeros (zs 51) m.toNat) 148 .ex)):=makeSlice_of und147 sz148 zr148 by148 (by kernel_rfl) (by kernel_rfl) (by decide) h1 h2 h3 h4
theorem ap46 {H:AHeap} {n m:Nat} {v x:Value} {c new:List Value} {g:Option Nat} (G:GS H 4 n v c g) (S:SR H 4 m x new) (hm:0 < m) (h1:n + m≤1099511627776) (h2:(n + m) * 32≤1099511627776):appendOp Try.prog #[46,46] [v,x] H=some (.slice (some ⟨H.n,0,none⟩) (n + m) (n + m),H.upd (H.n + 1) H.n (.cells (c ++ new) 61 (.gr (g.getD H.n) 4 true))):=(appendOp_of und46 und46 sz61 S).trans (GS.push und46 sz61 by61 zr61 (by kernel_rfl) (by kernel_rfl) (by decide) G S.len hm h1 h2)
theorem ap27 {H:AHeap} {n m:Nat} {v x:Value} {c new:List Value} {g:Option Nat} (G:GS H 1 n v c g) (S:SR H 1 m x new) (hm:0 < m) (h1:n + m≤1099511627776) (h2:(n + m) * 8≤1099511627776):appendOp Try.prog #[27,27] [v,x] H=some (.slice (some ⟨H.n,0,none⟩) (n + m) (n + m),H.upd (H.n + 1) H.n (.cells (c ++ new) 3 (.gr (g.getD H.n) 1 true))):=(appendOp_of und27 und27 sz3 S).trans (GS.push und27 sz3 by3 zr3 (by kernel_rfl) (by kernel_rfl) (by decide) G S.len hm h1 h2)
theorem ap45 {H:AHeap} {n m:Nat} {v x:Value} {c new:List Value} {g:Option Nat} (G:GS H 3 n v c g) (S:SR H 3 m x new) (hm:0 < m) (h1:n + m≤1099511627776) (h2:(n + m) * 24≤1099511627776):appendOp Try.prog #[45,45] [v,x] H=some (.slice (some ⟨H.n,0,none⟩) (n + m) (n + m),H.upd (H.n + 1) H.n (.cells (c ++ new) 84 (.gr (g.getD H.n) 3 true))):=(appendOp_of und45 und45 sz84 S).trans (GS.push und45 sz84 by84 zr84 (by kernel_rfl) (by kernel_rfl) (by decide) G S.len hm h1 h2)
theorem apz46 {H:AHeap} {n:Nat} {v x:Value} {c new:List Value} {g:Option Nat} (G:GS H 4 n v c g) (S:SR H 4 0 x new):appendOp Try.prog #[46,46] [v,x] H=some (v,H):=(appendOp_of und46 und46 sz61 S).trans (append0 und46 sz61 by61 zr61 (by kernel_rfl) (by kernel_rfl) (by decide) G (by simpa using S.len))
theorem apz45 {H:AHeap} {n:Nat} {v x:Value} {c new:List Value} {g:Option Nat} (G:GS H 3 n v c g) (S:SR H 3 0 x new):appendOp Try.prog #[45,45] [v,x] H=some (v,H):=(appendOp_of und45 und45 sz84 S).trans (append0 und45 sz84 by84 zr84 (by kernel_rfl) (by kernel_rfl) (by decide) G (by simpa using S.len))
theorem pu46 {H:AHeap} {n m:Nat} {v x:Value} {c new:List Value} {g:Option Nat} {K:Value→AHeap→Prop} (G:GS H 4 n v c g) (S:SR H 4 m x new) (hm:0 < m) (h1:n + m≤1099511627776) (h2:(n + m) * 32≤1099511627776) (ht:Top H) (k:GS (H.upd (H.n + 1) H.n (.cells (c ++ new) 61 (.gr (g.getD H.n) 4 true))) 4 (n + m) (.slice (some ⟨H.n,0,none⟩) (n + m) (n + m)) (c ++ new) (some (g.getD H.n))→K (.slice (some ⟨H.n,0,none⟩) (n + m) (n + m)) (H.upd (H.n + 1) H.n (.cells (c ++ new) 61 (.gr (g.getD H.n) 4 true)))):oB (appendOp Try.prog #[46,46] [v,x] H) K:=by rw [ap46 G S hm h1 h2];exact k (GS.pushed ht G S.len)
theorem pu27 {H:AHeap} {n m:Nat} {v x:Value} {c new:List Value} {g:Option Nat} {K:Value→AHeap→Prop} (G:GS H 1 n v c g) (S:SR H 1 m x new) (hm:0 < m) (h1:n + m≤1099511627776) (h2:(n + m) * 8≤1099511627776) (ht:Top H) (k:GS (H.upd (H.n + 1) H.n (.cells (c ++ new) 3 (.gr (g.getD H.n) 1 true))) 1 (n + m) (.slice (some ⟨H.n,0,none⟩) (n + m) (n + m)) (c ++ new) (some (g.getD H.n))→K (.slice (some ⟨H.n,0,none⟩) (n + m) (n + m)) (H.upd (H.n + 1) H.n (.cells (c ++ new) 3 (.gr (g.getD H.n) 1 true)))):oB (appendOp Try.prog #[27,27] [v,x] H) K:=by rw [ap27 G S hm h1 h2];exact k (GS.pushed ht G S.len)
theorem pu45 {H:AHeap} {n m:Nat} {v x:Value} {c new:List Value} {g:Option Nat} {K:Value→AHeap→Prop} (G:GS H 3 n v c g) (S:SR H 3 m x new) (hm:0 < m) (h1:n + m≤1099511627776) (h2:(n + m) * 24≤1099511627776) (ht:Top H) (k:GS (H.upd (H.n + 1) H.n (.cells (c ++ new) 84 (.gr (g.getD H.n) 3 true))) 3 (n + m) (.slice (some ⟨H.n,0,none⟩) (n + m) (n + m)) (c ++ new) (some (g.getD H.n))→K (.slice (some ⟨H.n,0,none⟩) (n + m) (n + m)) (H.upd (H.n + 1) H.n (.cells (c ++ new) 84 (.gr (g.getD H.n) 3 true)))):oB (appendOp Try.prog #[45,45] [v,x] H) K:=by rw [ap45 G S hm h1 h2];exact k (GS.pushed ht G S.len)
theorem cv3_109 {k:IntKind} {a:Int}:convA Try.prog 3 109 (.int k a)=some (.int .u64 (IntKind.wrap .u64 a)):=conv_int und3 und109
theorem cv109_3 {k:IntKind} {a:Int}:convA Try.prog 109 3 (.int k a)=some (.int .i64 (IntKind.wrap .i64 a)):=conv_int und109 und3
def tb7:=(And.intro (And.intro (And.intro (And.intro @al48 @bd61_0_1_2_3) (And.intro @bs27_2 @bs27_3)) (And.intro (And.intro @bs46_1 @eq4) (And.intro @fa48_0 @fa48_1))) (And.intro (And.intro (And.intro @fa48_2 @fa48_4) (And.intro @ld3 @ld46)) (And.intro (And.intro @ld48 @ne4) (And.intro @st3 (And.intro @st46 @st48)))))
def tb15:=(And.intro (And.intro @al24 (And.intro @bs27_1 @bs27_3)) (And.intro (And.intro @bs63_2 @eqs24) (And.intro @ld24 @st24)))
def tb16:=(And.intro (And.intro (And.intro @bd111_0 @cv3_109) (And.intro @fa111_0 @ia27)) (And.intro (And.intro @ld109 @ld3) (And.intro @ln27 @st109)))
def tb19:=(And.intro @cv109_3 @cv3_109)
def tb21:=(And.intro @ia27 (And.intro @ld3 @ln27))
def tb22:=(And.intro (And.intro (And.intro (And.intro @al24 @al26) (And.intro @al38 @bd24_0_1)) (And.intro (And.intro @fa24_0 @fa24_1) (And.intro @fa26_0 @fa26_1))) (And.intro (And.intro (And.intro @ia22 @ld24) (And.intro @ld26 @ld3)) (And.intro (And.intro @ld38 @ln22) (And.intro @st24 (And.intro @st26 @st38)))))
def tb24:=@ev_tmp
def tb26:=(And.intro (And.intro @al24 @bd24_0_1) (And.intro @ld24 @st24))
def tb29:=(And.intro (And.intro (And.intro (And.intro @al48 (And.intro @al84 @bd48_0_1_2)) (And.intro @bd61_0_1_2_3 (And.intro @bd84_0_1_2 @bs27_3))) (And.intro (And.intro @bs27_4 (And.intro @bs45_1 @bs46_1)) (And.intro (And.intro @fa48_0 @fa48_1) (And.intro @fa48_3 @fa48_4)))) (And.intro (And.intro (And.intro @fa84_0 (And.intro @fa84_1 @ia45)) (And.intro @ld3 (And.intro @ld45 @ld46))) (And.intro (And.intro @ld48 (And.intro @ld84 @ln45)) (And.intro (And.intro @st45 @st46) (And.intro @st48 @st84)))))
def tb30:=(And.intro (And.intro @fa48_4 (And.intro @fa61_0 @ia46)) (And.intro @ld3 (And.intro @ld46 @ln46)))
def tb31:=(And.intro (And.intro (And.intro @al48 @bs45_0) (And.intro @bs46_0 (And.intro @fa48_3 @fa48_4))) (And.intro (And.intro @ld45 (And.intro @ld46 @ld48)) (And.intro @st45 (And.intro @st46 @st48))))
def tb32:=(And.intro (And.intro @fa48_1 @fa48_4) (And.intro @ld3 (And.intro @ld46 @ld48)))
def tb35:=(And.intro (And.intro (And.intro @al121 @bd129_0_1) (And.intro @fa48_1 (And.intro @fa48_2 @fa48_4))) (And.intro (And.intro @ld121 @ld3) (And.intro @ld46 (And.intro @ld48 @st121x))))
def tb37:=(And.intro @fa48_4 (And.intro @ld46 @ld48))
def tb41:=(And.intro (And.intro (And.intro @al77 @bs27_1) (And.intro @fa77_0 @ia62)) (And.intro (And.intro @ld77 @ld9) (And.intro @ln27 (And.intro @ln62 @st77))))
def tb45:=(And.intro @ia27 (And.intro @ld3 @ln27))
def tb58:=(And.intro (And.intro (And.intro @al147 (And.intro @bs27_1 @fa87_0)) (And.intro (And.intro @fa87_3 @ia147) (And.intro @ia148 @ld147))) (And.intro (And.intro @ld3 (And.intro @ld37 @ld87)) (And.intro (And.intro @ln37 @ms147) (And.intro @st147 @st3))))
def tb67:=(And.intro (And.intro (And.intro (And.intro @al61 @al84) (And.intro @fa48_0 (And.intro @fa48_1 @fa48_2))) (And.intro (And.intro @fa48_3 (And.intro @fa48_4 @fa61_0)) (And.intro @fa61_1 (And.intro @fa61_2 @fa84_0)))) (And.intro (And.intro (And.intro @fa84_1 (And.intro @ia45 @ia46)) (And.intro @ld3 (And.intro @ld45 @ld46))) (And.intro (And.intro @ld61 (And.intro @ld84 @ln45)) (And.intro @ln46 (And.intro @st61 @st84)))))
def tb69:=(And.intro (And.intro (And.intro @al48 (And.intro @bd48_0_1_2_3_4 @bd61_0_1_2)) (And.intro @bd61_0_1_2_3 (And.intro @bd61_0_2_3 @bd61_2_3))) (And.intro (And.intro @bd84_0_1 (And.intro @bd84_1_2 @bs45_2)) (And.intro @bs46_5 (And.intro @ld48 @st48))))
def tb70:=(And.intro @bd77_0_1 @bs62_3)
def tb71:=(And.intro (And.intro @al87 @bd87_0_1_2_3) (And.intro @bs37_3 (And.intro @ld87 @st87)))
def tb72:=(And.intro @bd26_0_1 @bs22_2)
def tb73:=(And.intro @fa111_0 (And.intro @ld109 @st109))
def tb74:=(And.intro @bd24_ (And.intro @ld38 @st24))
def tb75:=@ev_tmp
def tb78:=@ev_tmp
def tb79:=(And.intro (And.intro (And.intro @fa48_0 @fa48_4) (And.intro @fa61_0 @ia46)) (And.intro (And.intro @ld3 @ld46) (And.intro @ld48 @ln46)))
def tb80:=(And.intro (And.intro (And.intro @al3 (And.intro @al61 @fa48_2)) (And.intro @fa61_0 (And.intro @fa61_1 @fa61_2))) (And.intro (And.intro @ia119 (And.intro @ia121 @ld3)) (And.intro @ld4 (And.intro @st3 @st61))))
def tb81:=(And.intro (And.intro (And.intro (And.intro @al121 @al84) (And.intro @fa48_3 @fa84_0)) (And.intro (And.intro @fa84_1 @fa84_2) (And.intro @ia119 (And.intro @ia121 @ia45)))) (And.intro (And.intro (And.intro @ld121 @ld3) (And.intro @ld4 @ld45)) (And.intro (And.intro @ld84 @ln45) (And.intro @st121x (And.intro @st4 @st84)))))
def tb86:=(And.intro (And.intro @fa48_1 @ld121) (And.intro @ld3 @ld48))
def tb87:=(And.intro (And.intro (And.intro (And.intro @al161 @al77) (And.intro @bd161_0 @fa77_0)) (And.intro (And.intro @fa77_1 @ia62) (And.intro @ia63 @ld161))) (And.intro (And.intro (And.intro @ld3 @ld77) (And.intro @ld9 @ln62)) (And.intro (And.intro @ln63 @ln9) (And.intro @st161 @st77))))
def tb88:=(And.intro (And.intro @ia131 (And.intro @ia63 @ld5)) (And.intro (And.intro @ld9 @ln63) (And.intro @ln9 @st5)))
def tb89:=@ln9
def tb97:=(And.intro (And.intro (And.intro @al24 (And.intro @fa24_0 @fa24_1)) (And.intro @fa87_0 (And.intro @fa87_1 @fa87_2))) (And.intro (And.intro @fa87_3 (And.intro @ia37 @ld24)) (And.intro (And.intro @ld3 @ld37) (And.intro @ln37 @st24))))
def tb100:=(And.intro (And.intro (And.intro @al24 @bd24_0_1) (And.intro @fa24_0 (And.intro @fa24_1 @fa87_0))) (And.intro (And.intro @fa87_1 (And.intro @ia37 @ld24)) (And.intro @ld3 (And.intro @ld37 @st24))))
def tb103:=(And.intro (And.intro (And.intro @al24 @fa24_0) (And.intro @fa24_1 (And.intro @fa87_2 @ia147))) (And.intro (And.intro @ia148 @ld147) (And.intro @ld3 (And.intro @ld87 @st24))))
def tb104:=@ev_tmp
def tb109:=@ev_tmp
def tb110:=(And.intro @fa84_0 (And.intro @fa84_1 @ld3))
def tb112:=@ev_tmp
def tb113:=(And.intro (And.intro @al121 (And.intro @ia119 @ia121)) (And.intro (And.intro @ld121 @ld4) (And.intro @st121x @st4)))
def tb114:=(And.intro (And.intro (And.intro @al127 (And.intro @al129 @al61)) (And.intro (And.intro @bd129_0_1 @fa48_0) (And.intro @fa61_0 @ld121))) (And.intro (And.intro (And.intro @ld127 @ld129) (And.intro @ld3 @ld46)) (And.intro (And.intro @ld48 @st127) (And.intro @st129 @st61))))
def tb115:=@ev_tmp
def tb116:=@ln9
def tb117:=@ev_tmp
def tb118:=(And.intro @fa77_0 @ld9)
def tb119:=@ev_tmp
def tb123:=(And.intro @ia45 (And.intro @ld84 @ln45))
def tb124:=(And.intro (And.intro (And.intro @al61 @fa61_3) (And.intro @ia46 @ld4)) (And.intro (And.intro @ld46 @ld61) (And.intro @ln46 @st61)))
def tb125:=@ev_tmp
def tb126:=(And.intro @fa161_0 @ld159)
def tb127:=(And.intro @ia62 (And.intro @ld77 @ln62))
def tb130:=@ev_tmp
def tb135:=(And.intro @eq4 @ne4)
end Go.Proofs.Swa
namespace Go.Proofs.Swa
open Go
set_option maxHeartbeats 1000000 in
set_option maxRecDepth 100000 in
theorem k_stringslite_IndexByte (s:ByteArray) (c:Int) (w:World) :
  Calls Try.prog 131 #[.string s,.int .u8 c] w fun e w'=>e=.returned (.int .i64 (Lib.indexByte s.data.toList c.toNat.toUInt8))∧w'=w:=by
 go_enter Try.func131,Try.ntmps131
 go_wp2
 rw [run_callFunc_extern Try.func136 (by kernel_rfl) (by kernel_rfl) (by kernel_rfl) (e:=Extern.BytealgIndexByte.indexByte) (by kernel_rfl),Lib.run_indexByteString]
 simp only [Result.andThen]
 rw [Oper.upon_value]
 go_wp2
 go_ret
 exact ⟨rfl,rfl⟩
set_option maxHeartbeats 2000000 in
set_option maxRecDepth 100000 in
theorem k_stringslite_Index_one (s:ByteArray) (c:UInt8) (w:World) :
  Calls Try.prog 128 #[.string s,.string ⟨#[c]⟩] w fun e w'=>e=.returned (.int .i64 (Lib.indexByte s.data.toList c))∧w'=w:=by
 go_enter Try.func128,Try.ntmps128
 go_wp2_with (go_at_call 131;refine (k_stringslite_IndexByte _ _ _).mono ?_;rintro e w' ⟨rfl,rfl⟩)
 ·have h:([c] == s.toList)=true:=by assumption
  go_ret
  refine ⟨?_,rfl⟩
  have e:s.data.toList=[c]:=by rw [← Lib.toList_data];exact (beq_iff_eq.1 h).symm
  rw [e]
  simp [Lib.indexByte]
 ·go_ret
  exact ⟨rfl,rfl⟩
set_option maxHeartbeats 1000000 in
theorem k_strings_Index_one (s:ByteArray) (c:UInt8) (w:World) :
  Calls Try.prog 120 #[.string s,.string ⟨#[c]⟩] w fun e w'=>e=.returned (.int .i64 (Lib.indexByte s.data.toList c))∧w'=w:=by
 go_enter Try.func120,Try.ntmps120
 go_wp2_with (go_at_call 128;refine (k_stringslite_Index_one _ _ _).mono ?_;rintro e w' ⟨rfl,rfl⟩)
 go_ret
 exact ⟨rfl,rfl⟩
set_option maxHeartbeats 1000000 in
theorem k_strings_Contains_one (s:ByteArray) (c:UInt8) (w:World) :
  Calls Try.prog 90 #[.string s,.string ⟨#[c]⟩] w fun e w'=>e=.returned (.bool (decide (0≤Lib.indexByte s.data.toList c)))∧w'=w:=by
 go_enter Try.func90,Try.ntmps90
 go_wp2_with (go_at_call 120;refine (k_strings_Index_one _ _ _).mono ?_;rintro e w' ⟨rfl,rfl⟩)
 go_ret
 exact ⟨rfl,rfl⟩
theorem f90 (s:ByteArray) (c:UInt8) (H:AHeap):OrC Try.prog 90 #[.string s,.string ⟨#[c]⟩] H (.bool (decide (0≤Lib.indexByte s.data.toList c))) H :=
 OrC.flat (by simp [dflat,flat]) rfl ⟨Try.f90,_,Try.func90,rfl,by kernel_rfl⟩ fun w=>(k_strings_Contains_one s c w).mono (by
  rintro e w' ⟨rfl,rfl⟩
  exact ⟨rfl,Go.RowKit.Below.refl _ _⟩)
end Go.Proofs.Swa
set_option maxRecDepth 20000
set_option linter.unusedVariables false
set_option linter.unusedSimpArgs false
namespace Go.Proofs.Swa
open Go
open Nat renaming reduceAdd → nrA, reduceMul → nrM, reduceEqDiff → nrE, reduceLT → nrL
open Int renaming reduceToNat → irN
abbrev C8:CallRel:=Cl Try.prog (OrC Try.prog) 0
attribute [local congr] WO_congr oV_congr oB_congr oH_congr WD_congr oblO_congr oblA_congr oblR_congr
abbrev fh (H:AHeap) (b:Nat) (x:Int):AHeap:=H.upd H.n b (.cells [uv x] 111 .ex)
theorem fh_same {H:AHeap} {b:Nat} {x:Int} (hg:H.get b=.cells [uv x] 111 .ex):H.upd H.n b (.cells [uv x] 111 .ex)=H:=by
 unfold AHeap.upd
 show (⟨H.n,_⟩:AHeap)=⟨H.n,H.get⟩
 congr 1
 funext c
 split
 ·rename_i e;rw [e,hg]
 ·rfl
theorem f73 (b:Nat) (x:Int) (H:AHeap) (hg:H.get b=.cells [uv x] 111 .ex):∃ v H',C8 (.fn 73) #[vptr b 0] H v H'∧v=uv (fOut x)∧H'=fh H b (fSt x):=by
 have hr:H.rd b=some [uv x]:=by rw [rd_def,hg];rfl
 refine Cl.ofW Try.func73 rfl (by kernel_rfl) (by rw [Try.ntmps73];exact Nat.le_of_ble_eq_true rfl) (by kernel_rfl) ?_
 have hEg:True:=trivial
 refine gcW [0] ?_
 intro eg hEn
 simp only [forallC,forallL,and_true] at hEn
 try simp only [↓pb,qbs,tb73,hg,hr,hEg,irN,nrA,nrM,nrE,reduceIte,reduceCtorEq,nrL] at hEn
 replace hEg:=hEn;clear hEn
 repeat' (first|((with_reducible refine hK _ _ fun e2 hEn=>?_);clear hK K;simp only [lv73,forallC,forallL,and_true] at hEn;(try simp only [↓pb,qbs,tb73,hg,hr,hEg,irN,nrA,nrM,nrE,reduceIte,reduceCtorEq,nrL] at hEn);clear hEg;(try clear eg);have hEg:=hEn;clear hEn;rename Env=>eg)|((first|((with_reducible first|apply oV_intro|apply oH_intro|apply oB_intro);(simp (disch:=try exact dA) only [qcs,tb73,hg,hr,hEg,irN,nrA,nrM,nrE,reduceIte,reduceCtorEq,nrL];with_reducible exact rfl))|((with_reducible first|apply oblA_and|apply oblR_and|apply oblO_and);(focus exact obA))|(with_reducible first|refine W_regionF lv73 fun K hK=>?_|refine W_drawnF lv73 fun K hK=>?_));try simp only [↓pb,↓pd,qds,tb73,hg,hr,hEg,irN,nrA,nrM,nrE,reduceIte,reduceCtorEq,nrL])|((with_reducible apply W_cond);(simp only [↓pb,qbs,tb73,hg,hr,hEg,irN,nrA,nrM,nrE,reduceIte,reduceCtorEq,nrL];with_reducible exact rfl);all_goals (intro hc;(first|exact hcX hc|try simp only [hcs] at hc)))|(with_reducible first|refine W_seq ?_|refine W_skip ?_|refine W_ret ?_)|fail)
 ·refine ⟨by first|exact .inl rfl|exact .inr rfl, ?_⟩
  rw [ret1 Try.results73]
  simp only [↓pb,qbs,tb73,hg,hr,rv_tmp,rv_cell,hEg,irN,nrA,nrM,nrE,reduceIte,reduceCtorEq,nrL]
  repeat ((with_reducible apply oV_intro);(simp (disch:=try exact dA) only [qcs,tb73,hg,hr,hEg,irN,nrA,nrM,nrE,reduceIte,reduceCtorEq,nrL];exact rfl))
  subst hc
  exact ⟨rfl,rfl⟩
 ·refine ⟨by first|exact .inl rfl|exact .inr rfl, ?_⟩
  rw [ret1 Try.results73]
  simp only [↓pb,qbs,tb73,hg,hr,rv_tmp,rv_cell,hEg,irN,nrA,nrM,nrE,reduceIte,reduceCtorEq,nrL]
  repeat ((with_reducible apply oV_intro);(simp (disch:=try exact dA) only [qcs,tb73,hg,hr,hEg,irN,nrA,nrM,nrE,reduceIte,reduceCtorEq,nrL];exact rfl))
  have h0:fS0 x=x:=if_neg hc
  unfold fOut fSt
  rw [h0]
  exact ⟨rfl,rfl⟩
theorem f19 (b:Nat) (x n:Int) (H:AHeap) (hg:H.get b=.cells [uv x] 111 .ex) (hn:n < 9223372036854775808):∃ v H',C8 (.fn 19) #[vptr b 0,iv n] H v H'∧v=iv (below x n)∧H'=fh H b (belowS x n):=by
 by_cases h2:n < 2
 ·have hu:=fh_same hg
  refine Cl.ofW Try.func19 rfl (by kernel_rfl) (by rw [Try.ntmps19];exact Nat.le_of_ble_eq_true rfl) (by kernel_rfl) ?_
  have hEg:True:=trivial
  refine gcW [0,1] ?_
  intro eg hEn
  simp only [forallC,forallL,and_true] at hEn
  try simp only [↓pb,qbs,tb19,h2,hEg,irN,nrA,nrM,nrE,reduceIte,reduceCtorEq,nrL] at hEn
  replace hEg:=hEn;clear hEn
  repeat' (first|((with_reducible refine hK _ _ fun e2 hEn=>?_);clear hK K;simp only [lv19,forallC,forallL,and_true] at hEn;(try simp only [↓pb,qbs,tb19,h2,hEg,irN,nrA,nrM,nrE,reduceIte,reduceCtorEq,nrL] at hEn);clear hEg;(try clear eg);have hEg:=hEn;clear hEn;rename Env=>eg)|((first|((with_reducible first|apply oV_intro|apply oH_intro|apply oB_intro);(simp (disch:=try exact dA) only [qcs,tb19,h2,hEg,irN,nrA,nrM,nrE,reduceIte,reduceCtorEq,nrL];with_reducible exact rfl))|(with_reducible first|refine W_regionF lv19 fun K hK=>?_));try simp only [↓pb,↓pd,qds,tb19,h2,hEg,irN,nrA,nrM,nrE,reduceIte,reduceCtorEq,nrL])|((with_reducible apply W_cond);(simp only [↓pb,qbs,tb19,h2,hEg,irN,nrA,nrM,nrE,reduceIte,reduceCtorEq,nrL];with_reducible exact rfl);all_goals (intro hc;(first|exact hcX hc|try simp only [hcs] at hc)))|(with_reducible first|refine W_seq ?_|refine W_skip ?_|refine W_ret ?_)|fail)
  refine ⟨by first|exact .inl rfl|exact .inr rfl, ?_⟩
  rw [ret1 Try.results19]
  simp only [↓pb,qbs,tb19,h2,rv_tmp,rv_cell,hEg,irN,nrA,nrM,nrE,reduceIte,reduceCtorEq,nrL]
  repeat ((with_reducible apply oV_intro);(simp (disch:=try exact dA) only [qcs,tb19,h2,hEg,irN,nrA,nrM,nrE,reduceIte,reduceCtorEq,nrL];exact rfl))
  simp only [below,belowS,h2,if_true,hu,and_self]
 ·have hw:=u64_id (n:=n) (by omega) (by omega)
  refine Cl.ofW Try.func19 rfl (by kernel_rfl) (by rw [Try.ntmps19];exact Nat.le_of_ble_eq_true rfl) (by kernel_rfl) ?_
  have hEg:True:=trivial
  refine gcW [0,1] ?_
  intro eg hEn
  simp only [forallC,forallL,and_true] at hEn
  try simp only [↓pb,qbs,tb19,hg,hw,h2,hEg,irN,nrA,nrM,nrE,reduceIte,reduceCtorEq,nrL] at hEn
  replace hEg:=hEn;clear hEn
  repeat' (first|((with_reducible refine hK _ _ fun e2 hEn=>?_);clear hK K;simp only [lv19,forallC,forallL,and_true] at hEn;(try simp only [↓pb,qbs,tb19,hg,hw,h2,hEg,irN,nrA,nrM,nrE,reduceIte,reduceCtorEq,nrL] at hEn);clear hEg;(try clear eg);have hEg:=hEn;clear hEn;rename Env=>eg)|((first|((with_reducible first|apply oV_intro|apply oH_intro|apply oB_intro);(simp (disch:=try exact dA) only [qcs,tb19,hg,hw,h2,hEg,irN,nrA,nrM,nrE,reduceIte,reduceCtorEq,nrL];with_reducible exact rfl))|((with_reducible apply WO_callE);(simp only [↓pb,qbs,tb19,hg,hw,h2,hEg,irN,nrA,nrM,nrE,reduceIte,reduceCtorEq,nrL];(exact f73 _ _ _ hg)))|(with_reducible first|refine W_regionF lv19 fun K hK=>?_));try simp only [↓pb,↓pd,qds,tb19,hg,hw,h2,hEg,irN,nrA,nrM,nrE,reduceIte,reduceCtorEq,nrL])|((with_reducible apply W_cond);(simp only [↓pb,qbs,tb19,hg,hw,h2,hEg,irN,nrA,nrM,nrE,reduceIte,reduceCtorEq,nrL];with_reducible exact rfl);all_goals (intro hc;(first|exact hcX hc|try simp only [hcs] at hc)))|(with_reducible first|refine W_seq ?_|refine W_skip ?_|refine W_ret ?_)|fail)
  refine ⟨by first|exact .inl rfl|exact .inr rfl, ?_⟩
  rw [ret1 Try.results19]
  simp only [↓pb,qbs,tb19,hg,hw,h2,rv_tmp,rv_cell,hEg,irN,nrA,nrM,nrE,reduceIte,reduceCtorEq,nrL]
  repeat ((with_reducible apply oV_intro);(simp (disch:=try exact dA) only [qcs,tb19,hg,hw,h2,hEg,irN,nrA,nrM,nrE,reduceIte,reduceCtorEq,nrL];exact rfl))
  simp only [below,belowS,h2,if_false,and_self]
theorem f24 (b:Nat) (x lo hi:Int) (H:AHeap) (hg:H.get b=.cells [uv x] 111 .ex):∃ v H',C8 (.fn 24) #[vptr b 0,iv lo,iv hi] H v H'∧v=iv (btw x lo hi)∧H'=fh H b (btwS x lo hi):=by
 refine Cl.ofW Try.func24 rfl (by kernel_rfl) (by rw [Try.ntmps24];exact Nat.le_of_ble_eq_true rfl) (by kernel_rfl) ?_
 have hEg:True:=trivial
 refine gcW [0,1,2] ?_
 intro eg hEn
 simp only [forallC,forallL,and_true] at hEn
 try simp only [↓pb,qbs,tb24,hg,hEg,irN,nrA,nrM,nrE,reduceIte,reduceCtorEq,nrL] at hEn
 replace hEg:=hEn;clear hEn
 repeat' (first|((with_reducible refine hK _ _ fun e2 hEn=>?_);clear hK K;simp only [lv24,forallC,forallL,and_true] at hEn;(try simp only [↓pb,qbs,tb24,hg,hEg,irN,nrA,nrM,nrE,reduceIte,reduceCtorEq,nrL] at hEn);clear hEg;(try clear eg);have hEg:=hEn;clear hEn;rename Env=>eg)|((first|((with_reducible first|apply oV_intro|apply oH_intro|apply oB_intro);(simp (disch:=try exact dA) only [qcs,tb24,hg,hEg,irN,nrA,nrM,nrE,reduceIte,reduceCtorEq,nrL];with_reducible exact rfl))|((with_reducible apply WO_callE);(simp only [↓pb,qbs,tb24,hg,hEg,irN,nrA,nrM,nrE,reduceIte,reduceCtorEq,nrL];(exact f19 _ _ _ _ hg (btwArg_lt _ _))))|(with_reducible first|refine W_regionF lv24 fun K hK=>?_));try simp only [↓pb,↓pd,qds,tb24,hg,hEg,irN,nrA,nrM,nrE,reduceIte,reduceCtorEq,nrL])|(with_reducible first|refine W_seq ?_|refine W_ret ?_)|fail)
 refine ⟨by first|exact .inl rfl|exact .inr rfl, ?_⟩
 rw [ret1 Try.results24]
 simp only [↓pb,qbs,tb24,hg,rv_tmp,rv_cell,hEg,irN,nrA,nrM,nrE,reduceIte,reduceCtorEq,nrL]
 repeat ((with_reducible apply oV_intro);(simp (disch:=try exact dA) only [qcs,tb24,hg,hEg,irN,nrA,nrM,nrE,reduceIte,reduceCtorEq,nrL];exact rfl))
 exact ⟨rfl,rfl⟩
theorem f78 (b:Nat) (x n m:Int) (H:AHeap) (hg:H.get b=.cells [uv x] 111 .ex) (hm:m < 9223372036854775808):∃ v H',C8 (.fn 78) #[vptr b 0,iv n,iv m] H v H'∧v=.bool (decide (below x m < n))∧H'=fh H b (belowS x m):=by
 refine Cl.ofW Try.func78 rfl (by kernel_rfl) (by rw [Try.ntmps78];exact Nat.le_of_ble_eq_true rfl) (by kernel_rfl) ?_
 have hEg:True:=trivial
 refine gcW [0,1,2] ?_
 intro eg hEn
 simp only [forallC,forallL,and_true] at hEn
 try simp only [↓pb,qbs,tb78,hg,hEg,irN,nrA,nrM,nrE,reduceIte,reduceCtorEq,nrL] at hEn
 replace hEg:=hEn;clear hEn
 repeat' (first|((with_reducible refine hK _ _ fun e2 hEn=>?_);clear hK K;simp only [lv78,forallC,forallL,and_true] at hEn;(try simp only [↓pb,qbs,tb78,hg,hEg,irN,nrA,nrM,nrE,reduceIte,reduceCtorEq,nrL] at hEn);clear hEg;(try clear eg);have hEg:=hEn;clear hEn;rename Env=>eg)|((first|((with_reducible first|apply oV_intro|apply oH_intro|apply oB_intro);(simp (disch:=try exact dA) only [qcs,tb78,hg,hEg,irN,nrA,nrM,nrE,reduceIte,reduceCtorEq,nrL];with_reducible exact rfl))|((with_reducible apply WO_callE);(simp only [↓pb,qbs,tb78,hg,hEg,irN,nrA,nrM,nrE,reduceIte,reduceCtorEq,nrL];(exact f19 _ _ _ _ hg hm)))|(with_reducible first|refine W_regionF lv78 fun K hK=>?_));try simp only [↓pb,↓pd,qds,tb78,hg,hEg,irN,nrA,nrM,nrE,reduceIte,reduceCtorEq,nrL])|(with_reducible first|refine W_seq ?_|refine W_ret ?_)|fail)
 refine ⟨by first|exact .inl rfl|exact .inr rfl, ?_⟩
 rw [ret1 Try.results78]
 simp only [↓pb,qbs,tb78,hg,rv_tmp,rv_cell,hEg,irN,nrA,nrM,nrE,reduceIte,reduceCtorEq,nrL]
 repeat ((with_reducible apply oV_intro);(simp (disch:=try exact dA) only [qcs,tb78,hg,hEg,irN,nrA,nrM,nrE,reduceIte,reduceCtorEq,nrL];exact rfl))
theorem f21 (b:Nat) (x:Int) (vl:Value) (l:List Int) (H:AHeap) (hg:H.get b=.cells [uv x] 111 .ex) (S:SR H 1 l.length vl (ints l)) (hne:vblk vl≠b∨l.length=0) (hl:l.length < 1099511627776) :
  ∃ v H',C8 (.fn 21) #[vptr b 0,vl] H v H'∧v=iv (either x l)∧H'=fh H b (eitherS x l):=by
 have S2:SR H 1 l.length vl (l.map iv):=S
 have hlt:=S.lt
 by_cases h0:l.length=0
 ·have hu:=fh_same hg
  have h0':(l.length:Int)=0:=by omega
  refine Cl.ofW Try.func21 rfl (by kernel_rfl) (by rw [Try.ntmps21];exact Nat.le_of_ble_eq_true rfl) (by kernel_rfl) ?_
  have hEg:True:=trivial
  refine gcW [0,1] ?_
  intro eg hEn
  simp only [forallC,forallL,and_true] at hEn
  try simp only [↓pb,qbs,tb21,lns27 S,h0',hEg,irN,nrA,nrM,nrE,reduceIte,reduceCtorEq,nrL] at hEn
  replace hEg:=hEn;clear hEn
  repeat' (first|((with_reducible refine hK _ _ fun e2 hEn=>?_);clear hK K;simp only [lv21,forallC,forallL,and_true] at hEn;(try simp only [↓pb,qbs,tb21,lns27 S,h0',hEg,irN,nrA,nrM,nrE,reduceIte,reduceCtorEq,nrL] at hEn);clear hEg;(try clear eg);have hEg:=hEn;clear hEn;rename Env=>eg)|((first|((with_reducible first|apply oV_intro|apply oH_intro|apply oB_intro);(simp (disch:=try exact dA) only [qcs,tb21,lns27 S,h0',hEg,irN,nrA,nrM,nrE,reduceIte,reduceCtorEq,nrL];with_reducible exact rfl))|(with_reducible first|refine W_regionF lv21 fun K hK=>?_));try simp only [↓pb,↓pd,qds,tb21,lns27 S,h0',hEg,irN,nrA,nrM,nrE,reduceIte,reduceCtorEq,nrL])|((with_reducible apply W_cond);(simp only [↓pb,qbs,tb21,lns27 S,h0',hEg,irN,nrA,nrM,nrE,reduceIte,reduceCtorEq,nrL];with_reducible exact rfl);all_goals (intro hc;(first|exact hcX hc|try simp only [hcs] at hc)))|(with_reducible first|refine W_seq ?_|refine W_skip ?_|refine W_ret ?_)|fail)
  refine ⟨by first|exact .inl rfl|exact .inr rfl, ?_⟩
  rw [ret1 Try.results21]
  simp only [↓pb,qbs,tb21,lns27 S,h0',rv_tmp,rv_cell,hEg,irN,nrA,nrM,nrE,reduceIte,reduceCtorEq,nrL]
  repeat ((with_reducible apply oV_intro);(simp (disch:=try exact dA) only [qcs,tb21,lns27 S,h0',hEg,irN,nrA,nrM,nrE,reduceIte,reduceCtorEq,nrL];exact rfl))
  simp only [either,eitherS,h0,if_true,hu,and_self]
 ·have hb:=below_spec x l.length (by omega)
  have h0':¬ ((l.length:Int)=0):=by omega
  have hb2:=hb.2.1 (by omega)
  refine Cl.ofW Try.func21 rfl (by kernel_rfl) (by rw [Try.ntmps21];exact Nat.le_of_ble_eq_true rfl) (by kernel_rfl) ?_
  have hEg:True:=trivial
  refine gcW [0,1] ?_
  intro eg hEn
  simp only [forallC,forallL,and_true] at hEn
  try simp only [↓pb,qbs,tb21,lns27 S,h0',ias27 S,S.rd,S2.el1 rfl,hEg,irN,nrA,nrM,nrE,reduceIte,reduceCtorEq,nrL] at hEn
  replace hEg:=hEn;clear hEn
  repeat' (first|((with_reducible refine hK _ _ fun e2 hEn=>?_);clear hK K;simp only [lv21,forallC,forallL,and_true] at hEn;(try simp only [↓pb,qbs,tb21,lns27 S,h0',ias27 S,S.rd,S2.el1 rfl,hEg,irN,nrA,nrM,nrE,reduceIte,reduceCtorEq,nrL] at hEn);clear hEg;(try clear eg);have hEg:=hEn;clear hEn;rename Env=>eg)|((first|((with_reducible first|apply oV_intro|apply oH_intro|apply oB_intro);(simp (disch:=try exact dA) only [qcs,tb21,lns27 S,h0',ias27 S,S.rd,S2.el1 rfl,hEg,irN,nrA,nrM,nrE,reduceIte,reduceCtorEq,nrL];with_reducible exact rfl))|((with_reducible apply WO_callE);(simp only [↓pb,qbs,tb21,lns27 S,h0',ias27 S,S.rd,S2.el1 rfl,hEg,irN,nrA,nrM,nrE,reduceIte,reduceCtorEq,nrL];(exact f19 _ _ _ _ hg (by omega))))|(with_reducible first|refine W_regionF lv21 fun K hK=>?_));try simp only [↓pb,↓pd,qds,tb21,lns27 S,h0',ias27 S,S.rd,S2.el1 rfl,hEg,irN,nrA,nrM,nrE,reduceIte,reduceCtorEq,nrL])|((with_reducible apply W_cond);(simp only [↓pb,qbs,tb21,lns27 S,h0',ias27 S,S.rd,S2.el1 rfl,hEg,irN,nrA,nrM,nrE,reduceIte,reduceCtorEq,nrL];with_reducible exact rfl);all_goals (intro hc;(first|exact hcX hc|try simp only [hcs] at hc)))|(with_reducible first|refine W_seq ?_|refine W_skip ?_|refine W_ret ?_)|fail)
  refine ⟨by first|exact .inl rfl|exact .inr rfl, ?_⟩
  rw [ret1 Try.results21]
  simp only [↓pb,qbs,tb21,lns27 S,h0',ias27 S,S.rd,S2.el1 rfl,rv_tmp,rv_cell,hEg,irN,nrA,nrM,nrE,reduceIte,reduceCtorEq,nrL]
  repeat ((with_reducible apply oV_intro);(simp (disch:=try exact dA) only [qcs,tb21,lns27 S,h0',ias27 S,S.rd,S2.el1 rfl,hEg,irN,nrA,nrM,nrE,reduceIte,reduceCtorEq,nrL];exact rfl))
  simp only [either,eitherS,h0,if_false,and_self]
  exact ⟨rfl,trivial⟩
theorem f16 (vl:Value) (l:List Int) (H:AHeap) (hT:Top H) (S:SR H 1 l.length vl (ints l)) (hl:l.length≤9223372036854775807) :
  ∃ v H',C8 (.fn 16) #[vl] H v H'∧v=vptr H.n 0∧H'=H.upd (H.n + 1) H.n (.cells [uv (feedOf l)] 111 .ex):=by
 have S2:SR H 1 l.length vl (l.map iv):=S
 have hfr:∀ o o',Fr H.n [H.n] (H.upd (H.n + 1) H.n (.cells o 111 .ex)) (H.upd (H.n + 1) H.n (.cells o' 111 .ex)):=fun o o'=>by
  have:=(Fr.refl (N:=H.n) (X:=[H.n]) (H.upd (H.n + 1) H.n (.cells o 111 .ex))).upd (n:=H.n + 1) (b:=H.n) (o:=.cells o' 111 .ex) (Nat.le_refl _) (Nat.lt_succ_self _) (.inr (by simp)) trivial
  rw [upd_upd] at this
  exact this
 refine Cl.ofW Try.func16 rfl (by kernel_rfl) (by rw [Try.ntmps16];exact Nat.le_of_ble_eq_true rfl) (by kernel_rfl) ?_
 have hEg:True:=trivial
 refine gcW [0] ?_
 intro eg hEn
 simp only [forallC,forallL,and_true] at hEn
 try simp only [↓pb,qbs,tb16,lns27 S,hEg,irN,nrA,nrM,nrE,reduceIte,reduceCtorEq,nrL] at hEn
 replace hEg:=hEn;clear hEn
 repeat' (first|((with_reducible refine hK _ _ fun e2 hEn=>?_);clear hK K;simp only [lv16,forallC,forallL,and_true] at hEn;(try simp only [↓pb,qbs,tb16,lns27 S,hEg,irN,nrA,nrM,nrE,reduceIte,reduceCtorEq,nrL] at hEn);clear hEg;(try clear eg);have hEg:=hEn;clear hEn;rename Env=>eg)|((first|((with_reducible first|apply oV_intro|apply oH_intro|apply oB_intro);(simp (disch:=try exact dA) only [qcs,tb16,lns27 S,hEg,irN,nrA,nrM,nrE,reduceIte,reduceCtorEq,nrL];with_reducible exact rfl))|((with_reducible first|apply oblA_and|apply oblR_and|apply oblO_and);(focus exact obA))|(with_reducible first|refine W_regionF lv16 fun K hK=>?_|refine W_drawnF lv16 fun K hK=>?_));try simp only [↓pb,↓pd,qds,tb16,lns27 S,hEg,irN,nrA,nrM,nrE,reduceIte,reduceCtorEq,nrL])|((with_reducible apply W_cond);(simp only [↓pb,qbs,tb16,lns27 S,hEg,irN,nrA,nrM,nrE,reduceIte,reduceCtorEq,nrL];with_reducible exact rfl);all_goals (intro hc;(first|exact hcX hc|try simp only [hcs] at hc)))|(with_reducible first|refine W_seq ?_|refine W_block ?_|refine W_skip ?_|refine W_ret ?_|refine W_exit ?_|apply blockK_exit)|((with_reducible apply blockK_pass);(focus decide))|fail)
 refine W_count [0,3] (by kernel_rfl) 4 (l.length) (H.n) [H.n] [] (fun i e h=>h=H.upd (H.n + 1) H.n (.cells [uv (feedOf (l.take i))] 111 .ex)) (by simp only [↓pb,qbs,tb16,lns27 S,hEg,irN,nrA,nrM,nrE,reduceIte,reduceCtorEq,nrL]) (by focus exact topA) (H0:=H) (by focus exact frA) (by intro b hb hlt;simp at hb ⊢;try omega) ?_ ?_
 rotate_left
 intro i1 e1 h1 hi1 hE1 ei1 hF1 hF01 hTh1 hJ1
 simp only [forallC,forallL,and_true] at hE1
 try simp only [↓pb,qbs,tb16,lns27 S,hEg,irN,nrA,nrM,nrE,reduceIte,reduceCtorEq,nrL] at hE1
 have hn11:=hF1.n;have hn01:=hF01.n;try simp only [upd_n,jn_n] at hn11
 replace hEg:=And.intro ei1 hE1
 rotate_left
 ·rfl
 subst hJ1
 have S1:=S2.fr0 hF01
 have l1:=S2.lt
 by_cases hi2:i1 < l.length
 ·repeat' (first|((with_reducible refine hK _ _ fun e2 hEn=>?_);clear hK K;simp only [lv16,forallC,forallL,and_true] at hEn;(try simp only [↓pb,qbs,tb16,lns27 S,hEg,irN,nrA,nrM,nrE,reduceIte,reduceCtorEq,nrL] at hEn);clear hEg;(try clear eg);have hEg:=hEn;clear hEn;rename Env=>eg)|((first|((with_reducible first|apply oV_intro|apply oH_intro|apply oB_intro);(simp (disch:=try exact dA) only [qcs,tb16,lns27 S,ias27 S1,S1.rd,S1.el1 rfl,hEg,irN,nrA,nrM,nrE,reduceIte,reduceCtorEq,nrL];with_reducible exact rfl))|((with_reducible first|apply oblA_and|apply oblR_and|apply oblO_and);(focus exact obA))|((with_reducible apply WO_callE);(simp only [↓pb,qbs,tb16,lns27 S,ias27 S1,S1.rd,S1.el1 rfl,hEg,irN,nrA,nrM,nrE,reduceIte,reduceCtorEq,nrL];(exact f73 _ _ _ upd_get_same)))|(with_reducible first|refine W_regionF lv16 fun K hK=>?_|refine W_drawnF lv16 fun K hK=>?_));try simp only [↓pb,↓pd,qds,tb16,lns27 S,ias27 S1,S1.rd,S1.el1 rfl,hEg,irN,nrA,nrM,nrE,reduceIte,reduceCtorEq,nrL])|((with_reducible apply W_cond);(simp only [↓pb,qbs,tb16,lns27 S,ias27 S1,S1.rd,S1.el1 rfl,hEg,irN,nrA,nrM,nrE,reduceIte,reduceCtorEq,nrL];with_reducible exact rfl);all_goals (intro hc;(first|exact hcX hc|try simp only [hcs] at hc)))|(with_reducible first|refine W_seq ?_|refine W_block ?_|refine W_skip ?_|refine W_ret ?_|refine W_exit ?_|apply blockK_exit)|((with_reducible apply blockK_pass);(focus decide))|fail)
  refine ⟨by omega,by simp only [↓pb,qbs,tb16,lns27 S,hEg,irN,nrA,nrM,nrE,reduceIte,reduceCtorEq,nrL];exact congrArg _ (inc64 (by omega)),hfr _ _, ?_⟩
  rw [take_getD hi2,feedOf,feedOf,List.foldl_append]
  rfl
 ·have e1:i1=l.length:=by omega
  repeat' (first|((with_reducible refine hK _ _ fun e2 hEn=>?_);clear hK K;simp only [lv16,forallC,forallL,and_true] at hEn;(try simp only [↓pb,qbs,tb16,lns27 S,hEg,irN,nrA,nrM,nrE,reduceIte,reduceCtorEq,nrL] at hEn);clear hEg;(try clear eg);have hEg:=hEn;clear hEn;rename Env=>eg)|((first|((with_reducible first|apply oV_intro|apply oH_intro|apply oB_intro);(simp (disch:=try exact dA) only [qcs,tb16,lns27 S,hEg,irN,nrA,nrM,nrE,reduceIte,reduceCtorEq,nrL];with_reducible exact rfl))|((with_reducible first|apply oblA_and|apply oblR_and|apply oblO_and);(focus exact obA))|(with_reducible first|refine W_regionF lv16 fun K hK=>?_|refine W_drawnF lv16 fun K hK=>?_));try simp only [↓pb,↓pd,qds,tb16,lns27 S,hEg,irN,nrA,nrM,nrE,reduceIte,reduceCtorEq,nrL])|((with_reducible apply W_cond);(simp only [↓pb,qbs,tb16,lns27 S,hEg,irN,nrA,nrM,nrE,reduceIte,reduceCtorEq,nrL];with_reducible exact rfl);all_goals (intro hc;(first|exact hcX hc|try simp only [hcs] at hc)))|(with_reducible first|refine W_seq ?_|refine W_block ?_|refine W_skip ?_|refine W_ret ?_|refine W_exit ?_|apply blockK_exit)|((with_reducible apply blockK_pass);(focus decide))|fail)
  refine ⟨by first|exact .inl rfl|exact .inr rfl, ?_⟩
  rw [ret1 Try.results16]
  simp only [↓pb,qbs,tb16,lns27 S,rv_tmp,rv_cell,hEg,irN,nrA,nrM,nrE,reduceIte,reduceCtorEq,nrL]
  repeat ((with_reducible apply oV_intro);(simp (disch:=try exact dA) only [qcs,tb16,lns27 S,hEg,irN,nrA,nrM,nrE,reduceIte,reduceCtorEq,nrL];exact rfl))
  rw [e1,List.take_length]
end Go.Proofs.Swa
set_option maxRecDepth 20000
set_option linter.unusedVariables false
set_option linter.unusedSimpArgs false
namespace Go.Proofs.Swa
open Go
open Nat renaming reduceAdd → nrA, reduceMul → nrM, reduceEqDiff → nrE, reduceLT → nrL
open Int renaming reduceToNat → irN
attribute [local congr] WO_congr oV_congr oB_congr oH_congr WD_congr oblO_congr oblA_congr oblR_congr
theorem f75 (a b c:Int) (H:AHeap):∃ v H',C8 (.fn 75) #[iv a,iv b,iv c] H v H'∧v=.bool (decide (b≤a∧a≤c))∧H'=H:=by
 refine Cl.ofW Try.func75 rfl (by kernel_rfl) (by rw [Try.ntmps75];exact Nat.le_of_ble_eq_true rfl) (by kernel_rfl) ?_
 have hEg:True:=trivial
 refine gcW [0,1,2] ?_
 intro eg hEn
 simp only [forallC,forallL,and_true] at hEn
 try simp only [↓pb,qbs,tb75,hEg,irN,nrA,nrM,nrE,reduceIte,reduceCtorEq,nrL] at hEn
 replace hEg:=hEn;clear hEn
 repeat' (first|((with_reducible refine hK _ _ fun e2 hEn=>?_);clear hK K;simp only [lv75,forallC,forallL,and_true] at hEn;(try simp only [↓pb,qbs,tb75,hEg,irN,nrA,nrM,nrE,reduceIte,reduceCtorEq,nrL] at hEn);clear hEg;(try clear eg);have hEg:=hEn;clear hEn;rename Env=>eg)|((first|((with_reducible first|apply oV_intro|apply oH_intro|apply oB_intro);(simp (disch:=try exact dA) only [qcs,tb75,hEg,irN,nrA,nrM,nrE,reduceIte,reduceCtorEq,nrL];with_reducible exact rfl))|(with_reducible first|refine W_regionF lv75 fun K hK=>?_));try simp only [↓pb,↓pd,qds,tb75,hEg,irN,nrA,nrM,nrE,reduceIte,reduceCtorEq,nrL])|(((with_reducible first|apply WO_gT|apply WO_gF);exact rfl);(simp only [↓pb,qbs,tb75,hEg,irN,nrA,nrM,nrE,reduceIte,reduceCtorEq,nrL];with_reducible exact rfl);all_goals (intro hc;(first|exact hcX hc|try simp only [hcs] at hc);try ((with_reducible apply woI);simp only [↓pb,↓pd,qds,tb75,hc,hEg,irN,nrA,nrM,nrE,reduceIte,reduceCtorEq,nrL])))|(with_reducible first|refine W_seq ?_|refine W_ret ?_)|fail)
 all_goals (
  refine ⟨by first|exact .inl rfl|exact .inr rfl, ?_⟩
  rw [ret1 Try.results75]
  simp only [↓pb,qbs,tb75,rv_tmp,rv_cell,hEg,irN,nrA,nrM,nrE,reduceIte,reduceCtorEq,nrL]
  repeat ((with_reducible apply oV_intro);(simp (disch:=try exact dA) only [qcs,tb75,hEg,irN,nrA,nrM,nrE,reduceIte,reduceCtorEq,nrL];exact rfl)))
 all_goals simp [*]
theorem f112 (vd:Value) (H:AHeap) (ho:one vd):∃ v H',C8 (.fn 112) #[vd] H v H'∧v=.func (.func 124) #[] #[vptr H.n 0]∧H'=H.upd (H.n + 1) H.n (.cells [vd] 46 .ex):=by
 refine Cl.ofW Try.func112 rfl (by kernel_rfl) (by rw [Try.ntmps112];exact Nat.le_of_ble_eq_true rfl) (by kernel_rfl) ?_
 have hEg:True:=trivial
 refine gcW [0] ?_
 intro eg hEn
 simp only [forallC,forallL,and_true] at hEn
 try simp only [↓pb,qbs,tb112,ho,ho.1,ho.2,hEg,irN,nrA,nrM,nrE,reduceIte,reduceCtorEq,nrL] at hEn
 replace hEg:=hEn;clear hEn
 repeat' (first|((with_reducible refine hK _ _ fun e2 hEn=>?_);clear hK K;simp only [lv112,forallC,forallL,and_true] at hEn;(try simp only [↓pb,qbs,tb112,ho,ho.1,ho.2,hEg,irN,nrA,nrM,nrE,reduceIte,reduceCtorEq,nrL] at hEn);clear hEg;(try clear eg);have hEg:=hEn;clear hEn;rename Env=>eg)|((first|((with_reducible first|apply oV_intro|apply oH_intro|apply oB_intro);(simp (disch:=try exact dA) only [qcs,tb112,ho,ho.1,ho.2,hEg,irN,nrA,nrM,nrE,reduceIte,reduceCtorEq,nrL];with_reducible exact rfl))|(with_reducible first|refine W_regionF lv112 fun K hK=>?_));try simp only [↓pb,↓pd,qds,tb112,ho,ho.1,ho.2,hEg,irN,nrA,nrM,nrE,reduceIte,reduceCtorEq,nrL])|(with_reducible first|refine W_seq ?_|refine W_ret ?_)|fail)
 refine ⟨by first|exact .inl rfl|exact .inr rfl, ?_⟩
 rw [ret1 Try.results112]
 simp only [↓pb,qbs,tb112,ho,ho.1,ho.2,rv_tmp,rv_cell,hEg,irN,nrA,nrM,nrE,reduceIte,reduceCtorEq,nrL]
 repeat ((with_reducible apply oV_intro);(simp (disch:=try exact dA) only [qcs,tb112,ho,ho.1,ho.2,hEg,irN,nrA,nrM,nrE,reduceIte,reduceCtorEq,nrL];exact rfl))
theorem f124 (l bd:Nat) (vd:Value) (al:List Due) (H:AHeap) (J:Nat→AHeap→Prop) (hl:al.length < 1099511627776) (hJ0:J 0 H)
  (hrd:∀ i h,J i h→h.rd bd=some [vd]∧bd < h.n∧SR h 4 al.length vd (al.flatMap eDue))
  (hnew:∀ i h c,J i h→J i (h.upd (h.n + 1) h.n (.cells c 61 .ex)))
  (hskip:∀ i h,i < al.length→(al.getD i default).Cash=false→J i h→J (i + 1) h)
  (hround:∀ i h,i < al.length→(al.getD i default).Cash=true→J i h→∃ H',C8 (.yield l) #[iv i,.agg ⟨eDue (al.getD i default)⟩] h (.bool true) H'∧J (i + 1) H') :
  ∃ v H',C8 (.fn 124) #[.func (.yield l) #[] #[],vptr bd 0] H v H'∧v=.tuple #[]∧J al.length H':=by
 obtain ⟨g1,g2,S⟩:=hrd 0 H hJ0
 have so:=S.one
 refine Cl.ofW Try.func124 rfl (by kernel_rfl) (by rw [Try.ntmps124];exact Nat.le_of_ble_eq_true rfl) (by kernel_rfl) ?_
 have hEg:True:=trivial
 refine gcW [0,1] ?_
 intro eg hEn
 simp only [forallC,forallL,and_true] at hEn
 try simp only [↓pb,qbs,tb124,g1,lns46 S,so,hEg,irN,nrA,nrM,nrE,reduceIte,reduceCtorEq,nrL] at hEn
 replace hEg:=hEn;clear hEn
 repeat' (first|((with_reducible refine hK _ _ fun e2 hEn=>?_);clear hK K;simp only [lv124,forallC,forallL,and_true] at hEn;(try simp only [↓pb,qbs,tb124,g1,lns46 S,so,hEg,irN,nrA,nrM,nrE,reduceIte,reduceCtorEq,nrL] at hEn);clear hEg;(try clear eg);have hEg:=hEn;clear hEn;rename Env=>eg)|((first|((with_reducible first|apply oV_intro|apply oH_intro|apply oB_intro);(simp (disch:=try exact dA) only [qcs,tb124,g1,lns46 S,so,hEg,irN,nrA,nrM,nrE,reduceIte,reduceCtorEq,nrL];with_reducible exact rfl))|(with_reducible first|refine W_regionF lv124 fun K hK=>?_));try simp only [↓pb,↓pd,qds,tb124,g1,lns46 S,so,hEg,irN,nrA,nrM,nrE,reduceIte,reduceCtorEq,nrL])|((first|((with_reducible first|apply WO_gT|apply WO_gF);exact rfl)|(with_reducible apply W_cond));(simp only [↓pb,qbs,tb124,g1,lns46 S,so,hEg,irN,nrA,nrM,nrE,reduceIte,reduceCtorEq,nrL];with_reducible exact rfl);all_goals (intro hc;(first|exact hcX hc|try simp only [hcs] at hc);try ((with_reducible apply woI);simp only [↓pb,↓pd,qds,tb124,g1,lns46 S,so,hc,hEg,irN,nrA,nrM,nrE,reduceIte,reduceCtorEq,nrL])))|(with_reducible first|refine W_seq ?_|refine W_block ?_|refine W_skip ?_|refine W_ret ?_|refine W_exit ?_|apply blockK_exit)|((with_reducible apply blockK_pass);(focus decide))|fail)
 refine W_loopF [0,1,5,6] (by kernel_rfl) (fun n e h=>∃ i:Nat,i≤al.length∧n=al.length - i∧e 7=iv i∧J i h) al.length ⟨0,Nat.zero_le _,by omega,by simp only [↓pb,qbs,tb124,g1,lns46 S,so,hEg,irN,nrA,nrM,nrE,reduceIte,reduceCtorEq,nrL];rfl,hJ0⟩ ?_
 rintro n e h hE ⟨i,hi,rfl,e9,hJ⟩
 simp only [forallC,forallL,and_true] at hE
 simp only [↓pb,qbs,tb124,g1,lns46 S,so,hEg,irN,nrA,nrM,nrE,reduceIte,reduceCtorEq,nrL] at hE
 obtain ⟨k1,k2,S1⟩:=hrd i h hJ
 have l1:=S1.lt
 have hn1:=hnew i h (eDue (al.getD i default)) hJ
 have fin:∀ (e2:Env),¬ (i:Int) < al.length→RetK Try.prog Try.f124 (fun v H'=>v=.tuple #[]∧J al.length H') Ex.normal e2 h:=by
  intro e2 hc
  have ei:i=al.length:=by omega
  subst ei
  refine ⟨by first|exact .inl rfl|exact .inr rfl, ?_⟩
  rw [ret0 Try.results124]
  simp only [↓pb,qbs,tb124,g1,lns46 S,so,rv_tmp,rv_cell,hEg,irN,nrA,nrM,nrE,reduceIte,reduceCtorEq,nrL]
  repeat ((with_reducible apply oV_intro);(simp (disch:=try exact dA) only [qcs,tb124,g1,lns46 S,so,hEg,irN,nrA,nrM,nrE,reduceIte,reduceCtorEq,nrL];exact rfl))
  exact hJ
 cases hs:(al.getD i default).Cash
 ·repeat' (first|((with_reducible refine hK _ _ fun e2 hEn=>?_);clear hK K;simp only [lv124,forallC,forallL,and_true] at hEn;(try simp only [↓pb,qbs,tb124,g1,lns46 S,so,hEg,irN,nrA,nrM,nrE,reduceIte,reduceCtorEq,nrL] at hEn);clear hEg;(try clear eg);have hEg:=hEn;clear hEn;rename Env=>eg)|((first|((with_reducible first|apply oV_intro|apply oH_intro|apply oB_intro);(simp (disch:=try exact dA) only [qcs,tb124,g1,lns46 S,so,hE,e9,ias46 S1,S1.rd,(S1.el eDue_len rfl),eDue,k1,hs,hEg,irN,nrA,nrM,nrE,reduceIte,reduceCtorEq,nrL];with_reducible exact rfl))|(with_reducible first|refine W_regionF lv124 fun K hK=>?_));try simp only [↓pb,↓pd,qds,tb124,g1,lns46 S,so,hE,e9,ias46 S1,S1.rd,(S1.el eDue_len rfl),eDue,k1,hs,hEg,irN,nrA,nrM,nrE,reduceIte,reduceCtorEq,nrL])|((first|((with_reducible first|apply WO_gT|apply WO_gF);exact rfl)|(with_reducible apply W_cond));(simp only [↓pb,qbs,tb124,g1,lns46 S,so,hE,e9,ias46 S1,S1.rd,(S1.el eDue_len rfl),eDue,k1,hs,hEg,irN,nrA,nrM,nrE,reduceIte,reduceCtorEq,nrL];with_reducible exact rfl);all_goals (intro hc;(first|exact hcX hc|try simp only [hcs] at hc);try ((with_reducible apply woI);simp only [↓pb,↓pd,qds,tb124,g1,lns46 S,so,hE,e9,ias46 S1,S1.rd,(S1.el eDue_len rfl),eDue,k1,hs,hc,hEg,irN,nrA,nrM,nrE,reduceIte,reduceCtorEq,nrL])))|(with_reducible first|refine W_seq ?_|refine W_block ?_|refine W_skip ?_|refine W_ret ?_|refine W_exit ?_|apply blockK_exit)|((with_reducible apply blockK_pass);(focus decide))|fail)
  ·have q:=hskip i _ (by omega) hs hn1
   rw [eDue,hs] at q
   refine ⟨al.length - (i + 1),by omega,i + 1,by omega,rfl, ?_,q⟩
   simp only [hEg]
   exact congrArg _ (inc64 (by omega))
  ·exact fin _ hc
 ·repeat' (first|((with_reducible refine hK _ _ fun e2 hEn=>?_);clear hK K;simp only [lv124,forallC,forallL,and_true] at hEn;(try simp only [↓pb,qbs,tb124,g1,lns46 S,so,hEg,irN,nrA,nrM,nrE,reduceIte,reduceCtorEq,nrL] at hEn);clear hEg;(try clear eg);have hEg:=hEn;clear hEn;rename Env=>eg)|((first|((with_reducible first|apply oV_intro|apply oH_intro|apply oB_intro);(simp (disch:=try exact dA) only [qcs,tb124,g1,lns46 S,so,hE,e9,ias46 S1,S1.rd,(S1.el eDue_len rfl),eDue,k1,hs,hEg,irN,nrA,nrM,nrE,reduceIte,reduceCtorEq,nrL];with_reducible exact rfl))|(with_reducible first|refine W_regionF lv124 fun K hK=>?_));try simp only [↓pb,↓pd,qds,tb124,g1,lns46 S,so,hE,e9,ias46 S1,S1.rd,(S1.el eDue_len rfl),eDue,k1,hs,hEg,irN,nrA,nrM,nrE,reduceIte,reduceCtorEq,nrL])|((first|((with_reducible first|apply WO_gT|apply WO_gF);exact rfl)|(with_reducible apply W_cond));(simp only [↓pb,qbs,tb124,g1,lns46 S,so,hE,e9,ias46 S1,S1.rd,(S1.el eDue_len rfl),eDue,k1,hs,hEg,irN,nrA,nrM,nrE,reduceIte,reduceCtorEq,nrL];with_reducible exact rfl);all_goals (intro hc;(first|exact hcX hc|try simp only [hcs] at hc);try ((with_reducible apply woI);simp only [↓pb,↓pd,qds,tb124,g1,lns46 S,so,hE,e9,ias46 S1,S1.rd,(S1.el eDue_len rfl),eDue,k1,hs,hc,hEg,irN,nrA,nrM,nrE,reduceIte,reduceCtorEq,nrL])))|(with_reducible first|refine W_seq ?_|refine W_block ?_|refine W_skip ?_|refine W_ret ?_|refine W_exit ?_|apply blockK_exit)|((with_reducible apply blockK_pass);(focus decide))|fail)
  ·obtain ⟨h2,hc2,hJ2⟩:=hround i _ (by omega) hs hn1
   have ee:eDue (al.getD i default)=[iv (al.getD i default).Day,iv (al.getD i default).Name,iv (al.getD i default).Cents,.bool true]:=by rw [eDue,hs]
   rw [ee] at hc2
   refine WO_callR (R:=fun v H'=>v=.bool true∧H'=h2) ?_ ?_
   ·simp only [↓pb,qbs,tb124,g1,lns46 S,so,hEg,irN,nrA,nrM,nrE,reduceIte,reduceCtorEq,nrL]
    exact ⟨_,_,hc2,rfl,rfl⟩
   rintro v H' ⟨rfl,rfl⟩
   simp only [↓pb,↓pd,qds,tb124,g1,lns46 S,so,hEg,irN,nrA,nrM,nrE,reduceIte,reduceCtorEq,nrL]
   repeat' (first|((with_reducible refine hK _ _ fun e2 hEn=>?_);clear hK K;simp only [lv124,forallC,forallL,and_true] at hEn;(try simp only [↓pb,qbs,tb124,g1,lns46 S,so,hEg,irN,nrA,nrM,nrE,reduceIte,reduceCtorEq,nrL] at hEn);clear hEg;(try clear eg);have hEg:=hEn;clear hEn;rename Env=>eg)|((first|((with_reducible first|apply oV_intro|apply oH_intro|apply oB_intro);(simp (disch:=try exact dA) only [qcs,tb124,g1,lns46 S,so,e9,hEg,irN,nrA,nrM,nrE,reduceIte,reduceCtorEq,nrL];with_reducible exact rfl))|(with_reducible first|refine W_regionF lv124 fun K hK=>?_));try simp only [↓pb,↓pd,qds,tb124,g1,lns46 S,so,e9,hEg,irN,nrA,nrM,nrE,reduceIte,reduceCtorEq,nrL])|((first|((with_reducible first|apply WO_gT|apply WO_gF);exact rfl)|(with_reducible apply W_cond));(simp only [↓pb,qbs,tb124,g1,lns46 S,so,e9,hEg,irN,nrA,nrM,nrE,reduceIte,reduceCtorEq,nrL];with_reducible exact rfl);all_goals (intro hc;(first|exact hcX hc|try simp only [hcs] at hc);try ((with_reducible apply woI);simp only [↓pb,↓pd,qds,tb124,g1,lns46 S,so,e9,hc,hEg,irN,nrA,nrM,nrE,reduceIte,reduceCtorEq,nrL])))|(with_reducible first|refine W_seq ?_|refine W_block ?_|refine W_skip ?_|refine W_ret ?_|refine W_exit ?_|apply blockK_exit)|((with_reducible apply blockK_pass);(focus decide))|fail)
   refine ⟨al.length - (i + 1),by omega,i + 1,by omega,rfl, ?_,hJ2⟩
   simp only [hEg,hE,e9]
   exact congrArg _ (inc64 (by omega))
  ·exact fin _ hc
def eTill (names lim win:Int) (vl vd:Value):List Value:=[iv names,iv lim,iv win,vl,vd]
structure WinH (names lim win name day:Int) (vl vdt vd:Value) (B:List Bool) (N:Nat) (LO:AObj) (h:AHeap):Prop where
 g0:h.get N=.cells (eTill names lim win vl vdt) 48 .ex
 g1:h.get (N + 1)=.cells (B.map .bool) 121 .ex
 g2:h.get (N + 2)=.cells [iv name] 3 .ex
 g3:h.get (N + 3)=.cells [iv day] 3 .ex
 g5:h.get (N + 5)=.cells [vd] 46 .ex
 g6:h.get (N + 6)=LO
 n:N + 6 < h.n
theorem f80 (vl vdt vd:Value) (names lim win name day:Int) (B:List Bool) (l:List Due) (H:AHeap) (hT:Top H) (hvl:one vl) (hvt:one vdt) (S:SR H 4 l.length vd (l.flatMap eDue)) (hl:l.length < 1000000) (hB:B.length=64) (hn:0≤name∧name < 8) (hd:∀ i,i < l.length→0≤(l.getD i default).Name∧(l.getD i default).Name < 8) :
  ∃ v H',C8 (.fn 80) #[.agg ⟨eTill names lim win vl vdt⟩,vd,.agg ⟨B.map .bool⟩,iv name,iv day] H v H'∧v=iv (wGo B win name day l)∧Fr H.n [] H H':=by
 have so:=S.one
 refine Cl.ofW Try.func80 rfl (by kernel_rfl) (by rw [Try.ntmps80];exact Nat.le_of_ble_eq_true rfl) (by kernel_rfl) ?_
 have hEg:True:=trivial
 refine gcW [0,1,2,3,4] ?_
 intro eg hEn
 simp only [forallC,forallL,and_true] at hEn
 try simp only [↓pb,qbs,tb80,eTill,hvl,hvt,so,so.1,so.2,hEg,irN,nrA,nrM,nrE,reduceIte,reduceCtorEq,nrL] at hEn
 replace hEg:=hEn;clear hEn
 repeat' (first|((with_reducible refine hK _ _ fun e2 hEn=>?_);clear hK K;simp only [lv80,forallC,forallL,and_true] at hEn;(try simp only [↓pb,qbs,tb80,eTill,hvl,hvt,so,so.1,so.2,hEg,irN,nrA,nrM,nrE,reduceIte,reduceCtorEq,nrL] at hEn);clear hEg;(try clear eg);have hEg:=hEn;clear hEn;rename Env=>eg)|((first|((with_reducible first|apply oV_intro|apply oH_intro|apply oB_intro);(simp (disch:=try exact dA) only [qcs,tb80,eTill,hvl,hvt,so,so.1,so.2,hEg,irN,nrA,nrM,nrE,reduceIte,reduceCtorEq,nrL];with_reducible exact rfl))|((with_reducible first|apply oblA_and|apply oblR_and|apply oblO_and);(focus exact obA))|((with_reducible apply WO_callE);(simp only [↓pb,qbs,tb80,eTill,hvl,hvt,so,so.1,so.2,hEg,irN,nrA,nrM,nrE,reduceIte,reduceCtorEq,nrL];(first|exact f112 _ _ so|exact f75 _ _ _ _)))|(with_reducible first|refine W_regionF lv80 fun K hK=>?_|refine W_drawnF lv80 fun K hK=>?_));try simp only [↓pb,↓pd,qds,tb80,eTill,hvl,hvt,so,so.1,so.2,hEg,irN,nrA,nrM,nrE,reduceIte,reduceCtorEq,nrL])|((first|((with_reducible first|apply WO_gT|apply WO_gF|apply WD_gT|apply WD_gF);exact rfl)|(with_reducible apply W_cond));(simp only [↓pb,qbs,tb80,eTill,hvl,hvt,so,so.1,so.2,hEg,irN,nrA,nrM,nrE,reduceIte,reduceCtorEq,nrL];with_reducible exact rfl);all_goals (intro hc;(first|exact hcX hc|try simp only [hcs] at hc);try ((with_reducible first|apply woI|apply wdI);simp only [↓pb,↓pd,qds,tb80,eTill,hvl,hvt,so,so.1,so.2,hc,hEg,irN,nrA,nrM,nrE,reduceIte,reduceCtorEq,nrL])))|(with_reducible first|refine W_seq ?_|refine W_block ?_|refine W_skip ?_|refine W_ret ?_|apply blockK_exit)|((with_reducible apply blockK_pass);(focus decide))|fail)
 refine W_range2 fun LO hLO hLg=>?_
 simp only [↓pb,qbs,tb80,eTill,hvl,hvt,so,so.1,so.2,hEg,irN,nrA,nrM,nrE,reduceIte,reduceCtorEq,nrL]
 let J:Nat→AHeap→Prop:=fun i h=>h.get (H.n + 4)=.cells [iv (wGo B win name day (l.take i))] 3 .ex∧WinH names lim win name day vl vdt vd B H.n LO h∧Fr H.n [] H h∧Top h
 suffices hs:∃ v H1,C8 (.fn 124) #[.func (.yield (H.n + 6)) #[] #[],vptr (H.n + 5) 0] _ v H1∧v=.tuple #[]∧J l.length H1 by
  obtain ⟨v,H1,c1,rfl,j1,j2,j3,j4⟩:=hs
  refine ⟨_,H1,c1,j2.g6,fun LX hLX=>?_⟩
  have r4:H1.rd (H.n + 4)=some [iv (wGo B win name day (l.take l.length))]:=by rw [rd_def,j1];rfl
  have jn:=j2.n
  repeat' (first|((with_reducible refine hK _ _ fun e2 hEn=>?_);clear hK K;simp only [lv80,forallC,forallL,and_true] at hEn;(try simp only [↓pb,qbs,tb80,eTill,hvl,hvt,so,so.1,so.2,hEg,irN,nrA,nrM,nrE,reduceIte,reduceCtorEq,nrL] at hEn);clear hEg;(try clear eg);have hEg:=hEn;clear hEn;rename Env=>eg)|((first|((with_reducible first|apply oV_intro|apply oH_intro|apply oB_intro);(simp (disch:=try exact dA) only [qcs,tb80,eTill,hvl,hvt,so,so.1,so.2,r4,hEg,irN,nrA,nrM,nrE,reduceIte,reduceCtorEq,nrL];with_reducible exact rfl))|((with_reducible first|apply oblA_and|apply oblR_and|apply oblO_and);(focus exact obA))|((with_reducible apply WO_callE);(simp only [↓pb,qbs,tb80,eTill,hvl,hvt,so,so.1,so.2,r4,hEg,irN,nrA,nrM,nrE,reduceIte,reduceCtorEq,nrL];(first|exact f112 _ _ so|exact f75 _ _ _ _)))|(with_reducible first|refine W_regionF lv80 fun K hK=>?_|refine W_drawnF lv80 fun K hK=>?_));try simp only [↓pb,↓pd,qds,tb80,eTill,hvl,hvt,so,so.1,so.2,r4,hEg,irN,nrA,nrM,nrE,reduceIte,reduceCtorEq,nrL])|((first|((with_reducible first|apply WO_gT|apply WO_gF|apply WD_gT|apply WD_gF);exact rfl)|(with_reducible apply W_cond));(simp only [↓pb,qbs,tb80,eTill,hvl,hvt,so,so.1,so.2,r4,hEg,irN,nrA,nrM,nrE,reduceIte,reduceCtorEq,nrL];with_reducible exact rfl);all_goals (intro hc;(first|exact hcX hc|try simp only [hcs] at hc);try ((with_reducible first|apply woI|apply wdI);simp only [↓pb,↓pd,qds,tb80,eTill,hvl,hvt,so,so.1,so.2,r4,hc,hEg,irN,nrA,nrM,nrE,reduceIte,reduceCtorEq,nrL])))|(with_reducible first|refine W_seq ?_|refine W_block ?_|refine W_skip ?_|refine W_ret ?_|apply blockK_exit)|((with_reducible apply blockK_pass);(focus decide))|fail)
  refine ⟨by first|exact .inl rfl|exact .inr rfl, ?_⟩
  rw [ret1 Try.results80]
  simp only [↓pb,qbs,tb80,eTill,hvl,hvt,so,so.1,so.2,rv_tmp,rv_cell,hEg,irN,nrA,nrM,nrE,reduceIte,reduceCtorEq,nrL]
  repeat ((with_reducible apply oV_intro);(simp (disch:=try exact dA) only [qcs,tb80,eTill,hvl,hvt,so,so.1,so.2,hEg,irN,nrA,nrM,nrE,reduceIte,reduceCtorEq,nrL];exact rfl))
  rw [List.take_length]
  refine ⟨rfl, ?_⟩
  (repeat' (first|with_reducible exact Fr.refl _|with_reducible assumption|((with_reducible apply Fr.trans) <;> with_reducible assumption)|((with_reducible refine Fr.jn ?_ ?_ ?_);rotate_left;(focus with_reducible assumption);(focus ((try simp only [upd_n,jn_n]);omega)))|((with_reducible refine Fr.upd ?_ ?_ ?_ ?_ ?_);rotate_left;(focus ((try simp only [upd_n,jn_n]);omega));(focus ((try simp only [upd_n,jn_n]);omega));(focus first|(left;((try simp only [upd_n,jn_n]);omega))|(right;simp;done));(focus first|trivial|apply hLX|apply hLB|apply hLg|exact ⟨by ((try simp only [upd_n,jn_n]);omega),by ((try simp only [upd_n,jn_n]);omega)⟩))))
 have hmono:∀ i h h',J i h→Fr h.n [] h h'→J i h':=by
  rintro i h h' ⟨j1,j2,j3,j4⟩ F
  have hn:=j2.n
  have ho:∀ b,b < h.n→h'.get b=h.get b:=fun b hb=>F.old b hb (by simp)
  refine ⟨by rw [ho _ (by omega)];exact j1,⟨?_, ?_, ?_, ?_, ?_, ?_,Nat.lt_of_lt_of_le hn F.n⟩,j3.call F j3.n,F.top j4⟩
  ·rw [ho _ (by omega)];exact j2.g0
  ·rw [ho _ (by omega)];exact j2.g1
  ·rw [ho _ (by omega)];exact j2.g2
  ·rw [ho _ (by omega)];exact j2.g3
  ·rw [ho _ (by omega)];exact j2.g5
  ·rw [ho _ (by omega)];exact j2.g6
 refine f124 (H.n + 6) (H.n + 5) vd l _ J (by omega) ?_ ?_ ?_ ?_ ?_
 ·refine ⟨?_,⟨?_, ?_, ?_, ?_, ?_, ?_, ?_⟩, ?_, ?_⟩
  all_goals first|(simp only [upd_n];omega;done)|(simp (disch:=try exact dA) only [qcs,tb80,eTill,hvl,hvt,so,so.1,so.2,hEg,irN,nrA,nrM,nrE,reduceIte,reduceCtorEq,nrL];done)|(simp (disch:=try exact dA) only [qcs,tb80,eTill,hvl,hvt,so,so.1,so.2,hEg,irN,nrA,nrM,nrE,reduceIte,reduceCtorEq,nrL];rfl)|skip
  ·(repeat' (first|with_reducible exact Fr.refl _|with_reducible assumption|((with_reducible apply Fr.trans) <;> with_reducible assumption)|((with_reducible refine Fr.jn ?_ ?_ ?_);rotate_left;(focus with_reducible assumption);(focus ((try simp only [upd_n,jn_n]);omega)))|((with_reducible refine Fr.upd ?_ ?_ ?_ ?_ ?_);rotate_left;(focus ((try simp only [upd_n,jn_n]);omega));(focus ((try simp only [upd_n,jn_n]);omega));(focus first|(left;((try simp only [upd_n,jn_n]);omega))|(right;simp;done));(focus first|trivial|apply hLX|apply hLB|apply hLg|exact ⟨by ((try simp only [upd_n,jn_n]);omega),by ((try simp only [upd_n,jn_n]);omega)⟩))))
  ·(repeat' (first|with_reducible assumption|((with_reducible refine Top.jn ?_ ?_);rotate_left;(focus with_reducible assumption))|((with_reducible refine Top.upd ?_ ?_ ?_ ?_);rotate_left;(focus ((try simp only [upd_n,jn_n]);omega));(focus ((try simp only [upd_n,jn_n]);omega));(focus first|trivial|apply hLX|apply hLB|apply hLg|exact ⟨by ((try simp only [upd_n,jn_n]);omega),by ((try simp only [upd_n,jn_n]);omega)⟩))))
 ·rintro i h ⟨j1,j2,j3,j4⟩
  have hn:=j2.n
  exact ⟨by rw [rd_def,j2.g5];rfl,by omega,S.fr0 j3⟩
 ·intro i h c hJ
  exact hmono i h _ hJ Fr.ex
 ·rintro i h hi hs ⟨j1,j2⟩
  refine ⟨?_,j2⟩
  rw [take_getD hi,wGo_snoc,wStep,if_neg (by rw [hs];exact Bool.false_ne_true)]
  exact j1
 ·rintro i h hi hs ⟨j1,j2,j3,j4⟩
  have e1:wGo B win name day (l.take (i + 1))=if wOk B win name day (l.getD i default)=true then w64 (wGo B win name day (l.take i) + (l.getD i default).Cents) else wGo B win name day (l.take i):=by
   rw [take_getD hi,wGo_snoc,wStep,if_pos hs]
  have hdi:=hd i hi
  generalize wGo B win name day (l.take i)=s at j1 e1
  generalize l.getD i default=d at *
  obtain ⟨g0,g1,g2,g3,g5,g6,gn⟩:=j2
  have r0:h.rd H.n=some [iv names,iv lim,iv win,vl,vdt]:=by rw [rd_def,g0];rfl
  have r1:h.rd (H.n + 1)=some (B.map .bool):=by rw [rd_def,g1];rfl
  have r2:h.rd (H.n + 2)=some [iv name]:=by rw [rd_def,g2];rfl
  have r3:h.rd (H.n + 3)=some [iv day]:=by rw [rd_def,g3];rfl
  have r4:h.rd (H.n + 4)=some [iv s]:=by rw [rd_def,j1];rfl
  have hn0:=j3.n
  have hw1:name.toNat * 8 + d.Name.toNat < 64:=by omega
  have hti:(B.map Value.bool)[name.toNat * 8 + d.Name.toNat]? = some (.bool (tie B name d.Name)):=by
   rw [List.getElem?_map,tie,List.getD_eq_getElem?_getD,List.getElem?_eq_getElem (by omega)]
   rfl
  refine round_W2 hLO g6 rfl (by kernel_rfl) (by kernel_rfl) (by kernel_rfl) (by kernel_rfl) (by kernel_rfl) ?_
  rw [roundEnv2]
  repeat' (first|((with_reducible refine hK _ _ fun e2 hEn=>?_);clear hK K;simp only [lv80,forallC,forallL,and_true] at hEn;(try simp only [↓pb,qbs,tb80,eTill,hvl,hvt,so,so.1,so.2,hEg,irN,nrA,nrM,nrE,reduceIte,reduceCtorEq,nrL] at hEn);clear hEg;(try clear eg);have hEg:=hEn;clear hEn;rename Env=>eg)|((first|((with_reducible first|apply oV_intro|apply oH_intro|apply oB_intro);(simp (disch:=try exact dA) only [qcs,tb80,eTill,hvl,hvt,so,so.1,so.2,eDue,hEg,irN,nrA,nrM,nrE,reduceIte,reduceCtorEq,nrL];with_reducible exact rfl))|((with_reducible first|apply oblA_and|apply oblR_and|apply oblO_and);(focus exact obA))|((with_reducible apply WO_callE);(simp only [↓pb,qbs,tb80,eTill,hvl,hvt,so,so.1,so.2,eDue,hEg,irN,nrA,nrM,nrE,reduceIte,reduceCtorEq,nrL];(first|exact f112 _ _ so|exact f75 _ _ _ _)))|(with_reducible first|refine W_regionF lv80 fun K hK=>?_|refine W_drawnF lv80 fun K hK=>?_));try simp only [↓pb,↓pd,qds,tb80,eTill,hvl,hvt,so,so.1,so.2,eDue,hEg,irN,nrA,nrM,nrE,reduceIte,reduceCtorEq,nrL])|((first|((with_reducible first|apply WO_gT|apply WO_gF|apply WD_gT|apply WD_gF);exact rfl)|(with_reducible apply W_cond));(simp only [↓pb,qbs,tb80,eTill,hvl,hvt,so,so.1,so.2,eDue,hEg,irN,nrA,nrM,nrE,reduceIte,reduceCtorEq,nrL];with_reducible exact rfl);all_goals (intro hc;(first|exact hcX hc|try simp only [hcs] at hc);try ((with_reducible first|apply woI|apply wdI);simp only [↓pb,↓pd,qds,tb80,eTill,hvl,hvt,so,so.1,so.2,eDue,hc,hEg,irN,nrA,nrM,nrE,reduceIte,reduceCtorEq,nrL])))|(with_reducible first|refine W_seq ?_|refine W_block ?_|refine W_skip ?_|refine W_ret ?_|apply blockK_exit)|((with_reducible apply blockK_pass);(focus decide))|fail)
  refine ⟨rfl,by simp (disch:=try exact dA) only [qcs,tb80,eTill,hvl,hvt,so,so.1,so.2,hEg,irN,nrA,nrM,nrE,reduceIte,reduceCtorEq,nrL];exact g6,fun LB hLB=>?_⟩
  have hcs:tie B name d.Name=false∨(tie B name d.Name=true∧decide (IntKind.i64.wrap (IntKind.i64.wrap (day - win) + 1)≤d.Day∧d.Day≤day)=false)∨(tie B name d.Name=true∧decide (IntKind.i64.wrap (IntKind.i64.wrap (day - win) + 1)≤d.Day∧d.Day≤day)=true):=by
   cases tie B name d.Name <;> cases decide (IntKind.i64.wrap (IntKind.i64.wrap (day - win) + 1)≤d.Day∧d.Day≤day) <;> simp
  rcases hcs with cc|cc|cc
  all_goals (
   repeat' (first|((with_reducible refine hK _ _ fun e2 hEn=>?_);clear hK K;simp only [lv80,forallC,forallL,and_true] at hEn;(try simp only [↓pb,qbs,tb80,eTill,hvl,hvt,so,so.1,so.2,hEg,irN,nrA,nrM,nrE,reduceIte,reduceCtorEq,nrL] at hEn);clear hEg;(try clear eg);have hEg:=hEn;clear hEn;rename Env=>eg)|((first|((with_reducible first|apply oV_intro|apply oH_intro|apply oB_intro);(simp (disch:=try exact dA) only [qcs,tb80,eTill,hvl,hvt,so,so.1,so.2,eDue,r0,r1,r2,r3,r4,j1,hti,Nat.mul_one,cc,Bool.false_eq_true,hEg,irN,nrA,nrM,nrE,reduceIte,reduceCtorEq,nrL];with_reducible exact rfl))|((with_reducible first|apply oblA_and|apply oblR_and|apply oblO_and);(focus exact obA))|((with_reducible apply WO_callE);(simp only [↓pb,qbs,tb80,eTill,hvl,hvt,so,so.1,so.2,eDue,r0,r1,r2,r3,r4,j1,hti,Nat.mul_one,cc,Bool.false_eq_true,hEg,irN,nrA,nrM,nrE,reduceIte,reduceCtorEq,nrL];(first|exact f75 _ _ _ _|exact f112 _ _ so|exact f75 _ _ _ _)))|(with_reducible first|refine W_regionF lv80 fun K hK=>?_|refine W_drawnF lv80 fun K hK=>?_));try simp only [↓pb,↓pd,qds,tb80,eTill,hvl,hvt,so,so.1,so.2,eDue,r0,r1,r2,r3,r4,j1,hti,Nat.mul_one,cc,Bool.false_eq_true,hEg,irN,nrA,nrM,nrE,reduceIte,reduceCtorEq,nrL])|((first|((with_reducible first|apply WO_gT|apply WO_gF|apply WD_gT|apply WD_gF);exact rfl)|(with_reducible apply W_cond));(simp only [↓pb,qbs,tb80,eTill,hvl,hvt,so,so.1,so.2,eDue,r0,r1,r2,r3,r4,j1,hti,Nat.mul_one,cc,Bool.false_eq_true,hEg,irN,nrA,nrM,nrE,reduceIte,reduceCtorEq,nrL];with_reducible exact rfl);all_goals (intro hc;(first|exact hcX hc|try simp only [hcs] at hc);try ((with_reducible first|apply woI|apply wdI);simp only [↓pb,↓pd,qds,tb80,eTill,hvl,hvt,so,so.1,so.2,eDue,r0,r1,r2,r3,r4,j1,hti,Nat.mul_one,cc,Bool.false_eq_true,hc,hEg,irN,nrA,nrM,nrE,reduceIte,reduceCtorEq,nrL])))|(with_reducible first|refine W_seq ?_|refine W_block ?_|refine W_skip ?_|refine W_ret ?_|apply blockK_exit)|((with_reducible apply blockK_pass);(focus decide))|fail))
  all_goals (
  have e2:wOk B win name day d=(tie B name d.Name && decide (IntKind.i64.wrap (IntKind.i64.wrap (day - win) + 1)≤d.Day∧d.Day≤day)):=rfl
  simp only [e2,cc,Bool.false_and,Bool.true_and,if_true,Bool.false_eq_true,if_false] at e1
  refine ⟨rfl,by simp (disch:=try exact dA) only [qcs,tb80,eTill,hvl,hvt,so,so.1,so.2,hEg,irN,nrA,nrM,nrE,reduceIte,reduceCtorEq,nrL], ?_,⟨?_, ?_, ?_, ?_, ?_, ?_, ?_⟩, ?_, ?_⟩
  all_goals first|(simp only [upd_n];omega;done)|(simp (disch:=try exact dA) only [qcs,tb80,eTill,hvl,hvt,so,so.1,so.2,hEg,irN,nrA,nrM,nrE,reduceIte,reduceCtorEq,nrL];done)|(simp (disch:=try exact dA) only [qcs,tb80,eTill,hvl,hvt,so,so.1,so.2,hEg,irN,nrA,nrM,nrE,reduceIte,reduceCtorEq,nrL];first|exact g0|exact g1|exact g2|exact g3|exact g5)|(rw [e1];simp (disch:=try exact dA) only [qcs,tb80,eTill,hvl,hvt,so,so.1,so.2,hEg,irN,nrA,nrM,nrE,reduceIte,reduceCtorEq,nrL];exact j1)|(rw [e1];simp (disch:=try exact dA) only [qcs,tb80,eTill,hvl,hvt,so,so.1,so.2,hEg,irN,nrA,nrM,nrE,reduceIte,reduceCtorEq,nrL];rfl)|skip
  ·(repeat' (first|with_reducible exact Fr.refl _|with_reducible assumption|((with_reducible apply Fr.trans) <;> with_reducible assumption)|((with_reducible refine Fr.jn ?_ ?_ ?_);rotate_left;(focus with_reducible assumption);(focus ((try simp only [upd_n,jn_n]);omega)))|((with_reducible refine Fr.upd ?_ ?_ ?_ ?_ ?_);rotate_left;(focus ((try simp only [upd_n,jn_n]);omega));(focus ((try simp only [upd_n,jn_n]);omega));(focus first|(left;((try simp only [upd_n,jn_n]);omega))|(right;simp;done));(focus first|trivial|apply hLX|apply hLB|apply hLg|exact ⟨by ((try simp only [upd_n,jn_n]);omega),by ((try simp only [upd_n,jn_n]);omega)⟩))))
  ·(repeat' (first|with_reducible assumption|((with_reducible refine Top.jn ?_ ?_);rotate_left;(focus with_reducible assumption))|((with_reducible refine Top.upd ?_ ?_ ?_ ?_);rotate_left;(focus ((try simp only [upd_n,jn_n]);omega));(focus ((try simp only [upd_n,jn_n]);omega));(focus first|trivial|apply hLX|apply hLB|apply hLg|exact ⟨by ((try simp only [upd_n,jn_n]);omega),by ((try simp only [upd_n,jn_n]);omega)⟩))))
  )
end Go.Proofs.Swa
