/- Part 8 of a proof. -/
import Derived.Test.YtkjcijlaehflhaaP07
import Derived.Test.YtkjcijlaehflhaaChecked
import Derived.KernelRfl
set_option linter.unusedVariables false
set_option linter.unusedSimpArgs false
set_option linter.defProp false
namespace Go.Proofs.Swa
open Go
noncomputable def fs26:Array Field:=match Try.prog.underlying 26 with|some (.struct fs)=>fs|_=>#[]
noncomputable def fs30:Array Field:=match Try.prog.underlying 30 with|some (.struct fs)=>fs|_=>#[]
noncomputable def fs28:Array Field:=match Try.prog.underlying 28 with|some (.struct fs)=>fs|_=>#[]
noncomputable def fs61:Array Field:=match Try.prog.underlying 61 with|some (.struct fs)=>fs|_=>#[]
noncomputable def fs76:Array Field:=match Try.prog.underlying 76 with|some (.struct fs)=>fs|_=>#[]
noncomputable def fs78:Array Field:=match Try.prog.underlying 78 with|some (.struct fs)=>fs|_=>#[]
noncomputable def fs85:Array Field:=match Try.prog.underlying 85 with|some (.struct fs)=>fs|_=>#[]
noncomputable def fs91:Array Field:=match Try.prog.underlying 91 with|some (.struct fs)=>fs|_=>#[]
noncomputable def fs101:Array Field:=match Try.prog.underlying 101 with|some (.struct fs)=>fs|_=>#[]
noncomputable def fs99:Array Field:=match Try.prog.underlying 99 with|some (.struct fs)=>fs|_=>#[]
noncomputable def fs144:Array Field:=match Try.prog.underlying 144 with|some (.struct fs)=>fs|_=>#[]
theorem und31:Try.prog.underlying 31=some (.slice 3):=by kernel_rfl
theorem und26:Try.prog.underlying 26=some (.struct fs26):=by kernel_rfl
theorem und24:Try.prog.underlying 24=some (.slice 30):=by kernel_rfl
theorem und22:Try.prog.underlying 22=some (.slice 78):=by kernel_rfl
theorem und23:Try.prog.underlying 23=some (.slice 76):=by kernel_rfl
theorem und42:Try.prog.underlying 42=some (.slice 28):=by kernel_rfl
theorem und30:Try.prog.underlying 30=some (.struct fs30):=by kernel_rfl
theorem und28:Try.prog.underlying 28=some (.struct fs28):=by kernel_rfl
theorem und3:Try.prog.underlying 3=some (.int .i64):=by kernel_rfl
theorem und61:Try.prog.underlying 61=some (.struct fs61):=by kernel_rfl
theorem und76:Try.prog.underlying 76=some (.struct fs76):=by kernel_rfl
theorem und78:Try.prog.underlying 78=some (.struct fs78):=by kernel_rfl
theorem und85:Try.prog.underlying 85=some (.struct fs85):=by kernel_rfl
theorem und83:Try.prog.underlying 83=some (.int .u64):=by kernel_rfl
theorem und91:Try.prog.underlying 91=some (.struct fs91):=by kernel_rfl
theorem und89:Try.prog.underlying 89=some (.slice 99):=by kernel_rfl
theorem und101:Try.prog.underlying 101=some (.struct fs101):=by kernel_rfl
theorem und99:Try.prog.underlying 99=some (.struct fs99):=by kernel_rfl
theorem und96:Try.prog.underlying 96=some (.array 11 94):=by kernel_rfl
theorem und94:Try.prog.underlying 94=some (.array 11 3):=by kernel_rfl
theorem und114:Try.prog.underlying 114=some (.slice 119):=by kernel_rfl
theorem und150:Try.prog.underlying 150=some (.slice 114):=by kernel_rfl
theorem und131:Try.prog.underlying 131=some (.array 2 3):=by kernel_rfl
theorem und97:Try.prog.underlying 97=some (.slice 101):=by kernel_rfl
theorem und142:Try.prog.underlying 142=some (.slice 144):=by kernel_rfl
theorem und144:Try.prog.underlying 144=some (.struct fs144):=by kernel_rfl
theorem und146:Try.prog.underlying 146=some (.slice 96):=by kernel_rfl
theorem sz26:tySize Try.prog 26=some 3:=by kernel_rfl
theorem sz3:tySize Try.prog 3=some 1:=by kernel_rfl
theorem sz24:tySize Try.prog 24=some 1:=by kernel_rfl
theorem sz30:tySize Try.prog 30=some 6:=by kernel_rfl
theorem sz22:tySize Try.prog 22=some 1:=by kernel_rfl
theorem sz23:tySize Try.prog 23=some 1:=by kernel_rfl
theorem sz61:tySize Try.prog 61=some 2:=by kernel_rfl
theorem sz28:tySize Try.prog 28=some 2:=by kernel_rfl
theorem sz76:tySize Try.prog 76=some 4:=by kernel_rfl
theorem sz78:tySize Try.prog 78=some 3:=by kernel_rfl
theorem sz83:tySize Try.prog 83=some 1:=by kernel_rfl
theorem sz4:tySize Try.prog 4=some 1:=by kernel_rfl
theorem sz91:tySize Try.prog 91=some 4:=by kernel_rfl
theorem sz89:tySize Try.prog 89=some 1:=by kernel_rfl
theorem sz99:tySize Try.prog 99=some 122:=by kernel_rfl
theorem sz101:tySize Try.prog 101=some 4:=by kernel_rfl
theorem sz96:tySize Try.prog 96=some 121:=by kernel_rfl
theorem sz94:tySize Try.prog 94=some 11:=by kernel_rfl
theorem sz119:tySize Try.prog 119=some 1:=by kernel_rfl
theorem sz114:tySize Try.prog 114=some 1:=by kernel_rfl
theorem sz97:tySize Try.prog 97=some 1:=by kernel_rfl
theorem sz144:tySize Try.prog 144=some 4:=by kernel_rfl
theorem sz145:tySize Try.prog 145=some 1:=by kernel_rfl
theorem sz154:tySize Try.prog 154=some 1:=by kernel_rfl
theorem by3:tyBytes Try.prog 3=some 8:=by kernel_rfl
theorem by30:tyBytes Try.prog 30=some 48:=by kernel_rfl
theorem by28:tyBytes Try.prog 28=some 16:=by kernel_rfl
theorem by78:tyBytes Try.prog 78=some 24:=by kernel_rfl
theorem by76:tyBytes Try.prog 76=some 32:=by kernel_rfl
theorem by119:tyBytes Try.prog 119=some 8:=by kernel_rfl
theorem by99:tyBytes Try.prog 99=some 992:=by kernel_rfl
theorem by96:tyBytes Try.prog 96=some 968:=by kernel_rfl
theorem by101:tyBytes Try.prog 101=some 32:=by kernel_rfl
theorem ag26:tyAgg Try.prog 26=some true:=by kernel_rfl
theorem ag24:tyAgg Try.prog 24=some false:=by kernel_rfl
theorem ag30:tyAgg Try.prog 30=some true:=by kernel_rfl
theorem ag22:tyAgg Try.prog 22=some false:=by kernel_rfl
theorem ag3:tyAgg Try.prog 3=some false:=by kernel_rfl
theorem ag23:tyAgg Try.prog 23=some false:=by kernel_rfl
theorem ag28:tyAgg Try.prog 28=some true:=by kernel_rfl
theorem ag61:tyAgg Try.prog 61=some true:=by kernel_rfl
theorem ag31:tyAgg Try.prog 31=some false:=by kernel_rfl
theorem ag83:tyAgg Try.prog 83=some false:=by kernel_rfl
theorem ag89:tyAgg Try.prog 89=some false:=by kernel_rfl
theorem ag99:tyAgg Try.prog 99=some true:=by kernel_rfl
theorem ag91:tyAgg Try.prog 91=some true:=by kernel_rfl
theorem ag101:tyAgg Try.prog 101=some true:=by kernel_rfl
theorem ag78:tyAgg Try.prog 78=some true:=by kernel_rfl
theorem ag76:tyAgg Try.prog 76=some true:=by kernel_rfl
theorem ag4:tyAgg Try.prog 4=some false:=by kernel_rfl
theorem ag97:tyAgg Try.prog 97=some false:=by kernel_rfl
theorem ag144:tyAgg Try.prog 144=some true:=by kernel_rfl
theorem ag96:tyAgg Try.prog 96=some true:=by kernel_rfl
theorem ag145:tyAgg Try.prog 145=some false:=by kernel_rfl
theorem ag114:tyAgg Try.prog 114=some false:=by kernel_rfl
theorem ag154:tyAgg Try.prog 154=some false:=by kernel_rfl
theorem ag119:tyAgg Try.prog 119=some false:=by kernel_rfl
theorem zr3:tyZero Try.prog 3=some (.int .i64 0):=by kernel_rfl
theorem zr26:tyZero Try.prog 26=some (.agg ([.slice none 0 0,.slice none 0 0,.slice none 0 0]:List Value).toArray):=by kernel_rfl
theorem zr30:tyZero Try.prog 30=some (.agg ([.int .i64 0,.int .i64 0,.int .i64 0,.int .i64 0,.int .i64 0] ++ [.bool false]:List Value).toArray):=by kernel_rfl
theorem zr61:tyZero Try.prog 61=some (.agg ([.slice none 0 0,.slice none 0 0]:List Value).toArray):=by kernel_rfl
theorem zr28:tyZero Try.prog 28=some (.agg ([.int .i64 0,.int .i64 0]:List Value).toArray):=by kernel_rfl
theorem zr85:tyZero Try.prog 85=some (.agg ([.int .u64 0]:List Value).toArray):=by kernel_rfl
theorem zr78:tyZero Try.prog 78=some (.agg ([.int .i64 0,.int .i64 0,.int .i64 0]:List Value).toArray):=by kernel_rfl
theorem zr76:tyZero Try.prog 76=some (.agg ([.int .i64 0,.int .i64 0,.int .i64 0,.int .i64 0]:List Value).toArray):=by kernel_rfl
theorem zr91:tyZero Try.prog 91=some (.agg ([.slice none 0 0,.slice none 0 0,.slice none 0 0,.slice none 0 0]:List Value).toArray):=by kernel_rfl
theorem zr99:tyZero Try.prog 99=some (.agg (zs 121 ++ [.slice none 0 0]:List Value).toArray):=by kernel_rfl
theorem zr101:tyZero Try.prog 101=some (.agg ([.int .i64 0,.int .i64 0,.int .i64 0,.int .i64 0]:List Value).toArray):=by kernel_rfl
theorem zr119:tyZero Try.prog 119=some (.nilFunc):=by kernel_rfl
theorem zr114:tyZero Try.prog 114=some (.slice none 0 0):=by kernel_rfl
theorem zr131:tyZero Try.prog 131=some (.agg ([.int .i64 0,.int .i64 0]:List Value).toArray):=by kernel_rfl
theorem zr144:tyZero Try.prog 144=some (.agg ([.int .i64 0,.int .i64 0,.int .i64 0,.int .i64 0]:List Value).toArray):=by kernel_rfl
theorem zr145:tyZero Try.prog 145=some (.nilFunc):=by kernel_rfl
theorem zr96:tyZero Try.prog 96=some (.agg (zs 121:List Value).toArray):=by kernel_rfl
theorem zr4:tyZero Try.prog 4=some (.bool false):=by kernel_rfl
theorem zr154:tyZero Try.prog 154=some (.nilFunc):=by kernel_rfl
theorem ld26 {H:AHeap} {b o:Nat}:loadA Try.prog 26 H (vptr b o)=(H.rd b).bind fun c=>atN c o 3:=loadN ag26 sz26 _ rfl
theorem ld24 {H:AHeap} {b o:Nat}:loadA Try.prog 24 H (vptr b o)=(H.rd b).bind fun c=>at1 c o:=load1 ag24 _ rfl
theorem ld30 {H:AHeap} {b o:Nat}:loadA Try.prog 30 H (vptr b o)=(H.rd b).bind fun c=>atN c o 6:=loadN ag30 sz30 _ rfl
theorem ld22 {H:AHeap} {b o:Nat}:loadA Try.prog 22 H (vptr b o)=(H.rd b).bind fun c=>at1 c o:=load1 ag22 _ rfl
theorem ld3 {H:AHeap} {b o:Nat}:loadA Try.prog 3 H (vptr b o)=(H.rd b).bind fun c=>at1 c o:=load1 ag3 _ rfl
theorem ld23 {H:AHeap} {b o:Nat}:loadA Try.prog 23 H (vptr b o)=(H.rd b).bind fun c=>at1 c o:=load1 ag23 _ rfl
theorem ld28 {H:AHeap} {b o:Nat}:loadA Try.prog 28 H (vptr b o)=(H.rd b).bind fun c=>atN c o 2:=loadN ag28 sz28 _ rfl
theorem ld61 {H:AHeap} {b o:Nat}:loadA Try.prog 61 H (vptr b o)=(H.rd b).bind fun c=>atN c o 2:=loadN ag61 sz61 _ rfl
theorem ld31 {H:AHeap} {b o:Nat}:loadA Try.prog 31 H (vptr b o)=(H.rd b).bind fun c=>at1 c o:=load1 ag31 _ rfl
theorem ld83 {H:AHeap} {b o:Nat}:loadA Try.prog 83 H (vptr b o)=(H.rd b).bind fun c=>at1 c o:=load1 ag83 _ rfl
theorem ld89 {H:AHeap} {b o:Nat}:loadA Try.prog 89 H (vptr b o)=(H.rd b).bind fun c=>at1 c o:=load1 ag89 _ rfl
theorem ld99 {H:AHeap} {b o:Nat}:loadA Try.prog 99 H (vptr b o)=(H.rd b).bind fun c=>atN c o 122:=loadN ag99 sz99 _ rfl
theorem ld91 {H:AHeap} {b o:Nat}:loadA Try.prog 91 H (vptr b o)=(H.rd b).bind fun c=>atN c o 4:=loadN ag91 sz91 _ rfl
theorem ld101 {H:AHeap} {b o:Nat}:loadA Try.prog 101 H (vptr b o)=(H.rd b).bind fun c=>atN c o 4:=loadN ag101 sz101 _ rfl
theorem ld78 {H:AHeap} {b o:Nat}:loadA Try.prog 78 H (vptr b o)=(H.rd b).bind fun c=>atN c o 3:=loadN ag78 sz78 _ rfl
theorem ld76 {H:AHeap} {b o:Nat}:loadA Try.prog 76 H (vptr b o)=(H.rd b).bind fun c=>atN c o 4:=loadN ag76 sz76 _ rfl
theorem ld4 {H:AHeap} {b o:Nat}:loadA Try.prog 4 H (vptr b o)=(H.rd b).bind fun c=>at1 c o:=load1 ag4 _ rfl
theorem ld97 {H:AHeap} {b o:Nat}:loadA Try.prog 97 H (vptr b o)=(H.rd b).bind fun c=>at1 c o:=load1 ag97 _ rfl
theorem ld144 {H:AHeap} {b o:Nat}:loadA Try.prog 144 H (vptr b o)=(H.rd b).bind fun c=>atN c o 4:=loadN ag144 sz144 _ rfl
theorem ld96 {H:AHeap} {b o:Nat}:loadA Try.prog 96 H (vptr b o)=(H.rd b).bind fun c=>atN c o 121:=loadN ag96 sz96 _ rfl
theorem ld145 {H:AHeap} {b o:Nat}:loadA Try.prog 145 H (vptr b o)=(H.rd b).bind fun c=>at1 c o:=load1 ag145 _ rfl
theorem ld114 {H:AHeap} {b o:Nat}:loadA Try.prog 114 H (vptr b o)=(H.rd b).bind fun c=>at1 c o:=load1 ag114 _ rfl
theorem ld154 {H:AHeap} {b o:Nat}:loadA Try.prog 154 H (vptr b o)=(H.rd b).bind fun c=>at1 c o:=load1 ag154 _ rfl
theorem ld119 {H:AHeap} {b o:Nat}:loadA Try.prog 119 H (vptr b o)=(H.rd b).bind fun c=>at1 c o:=load1 ag119 _ rfl
theorem st26 {H:AHeap} {b o:Nat} {x:Value}:storeA Try.prog 26 H (vptr b o) x=stG H b o 3 x (H.get b):=store_of sz26
theorem st24 {H:AHeap} {b o:Nat} {x:Value}:storeA Try.prog 24 H (vptr b o) x=stG H b o 1 x (H.get b):=store_of sz24
theorem st61 {H:AHeap} {b o:Nat} {x:Value}:storeA Try.prog 61 H (vptr b o) x=stG H b o 2 x (H.get b):=store_of sz61
theorem st28 {H:AHeap} {b o:Nat} {x:Value}:storeA Try.prog 28 H (vptr b o) x=stG H b o 2 x (H.get b):=store_of sz28
theorem st3 {H:AHeap} {b o:Nat} {x:Value}:storeA Try.prog 3 H (vptr b o) x=stG H b o 1 x (H.get b):=store_of sz3
theorem st30 {H:AHeap} {b o:Nat} {x:Value}:storeA Try.prog 30 H (vptr b o) x=stG H b o 6 x (H.get b):=store_of sz30
theorem st83 {H:AHeap} {b o:Nat} {x:Value}:storeA Try.prog 83 H (vptr b o) x=stG H b o 1 x (H.get b):=store_of sz83
theorem st22 {H:AHeap} {b o:Nat} {x:Value}:storeA Try.prog 22 H (vptr b o) x=stG H b o 1 x (H.get b):=store_of sz22
theorem st23 {H:AHeap} {b o:Nat} {x:Value}:storeA Try.prog 23 H (vptr b o) x=stG H b o 1 x (H.get b):=store_of sz23
theorem st4 {H:AHeap} {b o:Nat} {x:Value}:storeA Try.prog 4 H (vptr b o) x=stG H b o 1 x (H.get b):=store_of sz4
theorem st91 {H:AHeap} {b o:Nat} {x:Value}:storeA Try.prog 91 H (vptr b o) x=stG H b o 4 x (H.get b):=store_of sz91
theorem st99 {H:AHeap} {b o:Nat} {x:Value}:storeA Try.prog 99 H (vptr b o) x=stG H b o 122 x (H.get b):=store_of sz99
theorem st101 {H:AHeap} {b o:Nat} {x:Value}:storeA Try.prog 101 H (vptr b o) x=stG H b o 4 x (H.get b):=store_of sz101
theorem st78 {H:AHeap} {b o:Nat} {x:Value}:storeA Try.prog 78 H (vptr b o) x=stG H b o 3 x (H.get b):=store_of sz78
theorem st76 {H:AHeap} {b o:Nat} {x:Value}:storeA Try.prog 76 H (vptr b o) x=stG H b o 4 x (H.get b):=store_of sz76
theorem st89 {H:AHeap} {b o:Nat} {x:Value}:storeA Try.prog 89 H (vptr b o) x=stG H b o 1 x (H.get b):=store_of sz89
theorem st144 {H:AHeap} {b o:Nat} {x:Value}:storeA Try.prog 144 H (vptr b o) x=stG H b o 4 x (H.get b):=store_of sz144
theorem st145 {H:AHeap} {b o:Nat} {x:Value}:storeA Try.prog 145 H (vptr b o) x=stG H b o 1 x (H.get b):=store_of sz145
theorem st154 {H:AHeap} {b o:Nat} {x:Value}:storeA Try.prog 154 H (vptr b o) x=stG H b o 1 x (H.get b):=store_of sz154
theorem st97 {H:AHeap} {b o:Nat} {x:Value}:storeA Try.prog 97 H (vptr b o) x=stG H b o 1 x (H.get b):=store_of sz97
theorem st114 {H:AHeap} {b o:Nat} {x:Value}:storeA Try.prog 114 H (vptr b o) x=stG H b o 1 x (H.get b):=store_of sz114
theorem st96 {H:AHeap} {b o:Nat} {x:Value}:storeA Try.prog 96 H (vptr b o) x=stG H b o 121 x (H.get b):=store_of sz96
theorem al26 {H:AHeap}:allocA Try.prog 26 H=some (vptr H.n 0,H.upd (H.n + 1) H.n (.cells ([.slice none 0 0,.slice none 0 0,.slice none 0 0]:List Value) 26 .ex)):=alloc_of zr26 (by kernel_rfl)
theorem al61 {H:AHeap}:allocA Try.prog 61 H=some (vptr H.n 0,H.upd (H.n + 1) H.n (.cells ([.slice none 0 0,.slice none 0 0]:List Value) 61 .ex)):=alloc_of zr61 (by kernel_rfl)
theorem al30 {H:AHeap}:allocA Try.prog 30 H=some (vptr H.n 0,H.upd (H.n + 1) H.n (.cells ([.int .i64 0,.int .i64 0,.int .i64 0,.int .i64 0,.int .i64 0] ++ [.bool false]:List Value) 30 .ex)):=alloc_of zr30 (by kernel_rfl)
theorem al91 {H:AHeap}:allocA Try.prog 91 H=some (vptr H.n 0,H.upd (H.n + 1) H.n (.cells ([.slice none 0 0,.slice none 0 0,.slice none 0 0,.slice none 0 0]:List Value) 91 .ex)):=alloc_of zr91 (by kernel_rfl)
theorem al99 {H:AHeap}:allocA Try.prog 99 H=some (vptr H.n 0,H.upd (H.n + 1) H.n (.cells (zs 121 ++ [.slice none 0 0]:List Value) 99 .ex)):=alloc_of zr99 (by kernel_rfl)
theorem al101 {H:AHeap}:allocA Try.prog 101 H=some (vptr H.n 0,H.upd (H.n + 1) H.n (.cells ([.int .i64 0,.int .i64 0,.int .i64 0,.int .i64 0]:List Value) 101 .ex)):=alloc_of zr101 (by kernel_rfl)
theorem al78 {H:AHeap}:allocA Try.prog 78 H=some (vptr H.n 0,H.upd (H.n + 1) H.n (.cells ([.int .i64 0,.int .i64 0,.int .i64 0]:List Value) 78 .ex)):=alloc_of zr78 (by kernel_rfl)
theorem al76 {H:AHeap}:allocA Try.prog 76 H=some (vptr H.n 0,H.upd (H.n + 1) H.n (.cells ([.int .i64 0,.int .i64 0,.int .i64 0,.int .i64 0]:List Value) 76 .ex)):=alloc_of zr76 (by kernel_rfl)
theorem al144 {H:AHeap}:allocA Try.prog 144 H=some (vptr H.n 0,H.upd (H.n + 1) H.n (.cells ([.int .i64 0,.int .i64 0,.int .i64 0,.int .i64 0]:List Value) 144 .ex)):=alloc_of zr144 (by kernel_rfl)
theorem al145 {H:AHeap}:allocA Try.prog 145 H=some (vptr H.n 0,H.upd (H.n + 1) H.n (.cells ([.nilFunc]:List Value) 145 .ex)):=alloc_of zr145 (by kernel_rfl)
theorem al4 {H:AHeap}:allocA Try.prog 4 H=some (vptr H.n 0,H.upd (H.n + 1) H.n (.cells ([.bool false]:List Value) 4 .ex)):=alloc_of zr4 (by kernel_rfl)
theorem al154 {H:AHeap}:allocA Try.prog 154 H=some (vptr H.n 0,H.upd (H.n + 1) H.n (.cells ([.nilFunc]:List Value) 154 .ex)):=alloc_of zr154 (by kernel_rfl)
theorem al3 {H:AHeap}:allocA Try.prog 3 H=some (vptr H.n 0,H.upd (H.n + 1) H.n (.cells ([.int .i64 0]:List Value) 3 .ex)):=alloc_of zr3 (by kernel_rfl)
theorem al114 {H:AHeap}:allocA Try.prog 114 H=some (vptr H.n 0,H.upd (H.n + 1) H.n (.cells ([.slice none 0 0]:List Value) 114 .ex)):=alloc_of zr114 (by kernel_rfl)
theorem al96 {H:AHeap}:allocA Try.prog 96 H=some (vptr H.n 0,H.upd (H.n + 1) H.n (.cells (zs 121:List Value) 96 .ex)):=alloc_of zr96 (by kernel_rfl)
theorem fa26_2 {b o:Nat}:fieldAddrA Try.prog 26 (vptr b o) 2=some (vptr b (o + 2)):=fieldAddr_of und26 (f:=2) (fd:=(fs26[2]?).getD default) (by kernel_rfl) (sz:=1) (by kernel_rfl) (by decide) (by kernel_rfl)
theorem fa26_0 {b o:Nat}:fieldAddrA Try.prog 26 (vptr b o) 0=some (vptr b (o + 0)):=fieldAddr_of und26 (f:=0) (fd:=(fs26[0]?).getD default) (by kernel_rfl) (sz:=1) (by kernel_rfl) (by decide) (by kernel_rfl)
theorem fa26_1 {b o:Nat}:fieldAddrA Try.prog 26 (vptr b o) 1=some (vptr b (o + 1)):=fieldAddr_of und26 (f:=1) (fd:=(fs26[1]?).getD default) (by kernel_rfl) (sz:=1) (by kernel_rfl) (by decide) (by kernel_rfl)
theorem fa30_3 {b o:Nat}:fieldAddrA Try.prog 30 (vptr b o) 3=some (vptr b (o + 3)):=fieldAddr_of und30 (f:=3) (fd:=(fs30[3]?).getD default) (by kernel_rfl) (sz:=2) (by kernel_rfl) (by decide) (by kernel_rfl)
theorem fa28_1 {b o:Nat}:fieldAddrA Try.prog 28 (vptr b o) 1=some (vptr b (o + 1)):=fieldAddr_of und28 (f:=1) (fd:=(fs28[1]?).getD default) (by kernel_rfl) (sz:=1) (by kernel_rfl) (by decide) (by kernel_rfl)
theorem fa28_0 {b o:Nat}:fieldAddrA Try.prog 28 (vptr b o) 0=some (vptr b (o + 0)):=fieldAddr_of und28 (f:=0) (fd:=(fs28[0]?).getD default) (by kernel_rfl) (sz:=1) (by kernel_rfl) (by decide) (by kernel_rfl)
theorem fa61_1 {b o:Nat}:fieldAddrA Try.prog 61 (vptr b o) 1=some (vptr b (o + 1)):=fieldAddr_of und61 (f:=1) (fd:=(fs61[1]?).getD default) (by kernel_rfl) (sz:=1) (by kernel_rfl) (by decide) (by kernel_rfl)
theorem fa30_2 {b o:Nat}:fieldAddrA Try.prog 30 (vptr b o) 2=some (vptr b (o + 2)):=fieldAddr_of und30 (f:=2) (fd:=(fs30[2]?).getD default) (by kernel_rfl) (sz:=1) (by kernel_rfl) (by decide) (by kernel_rfl)
theorem fa76_0 {b o:Nat}:fieldAddrA Try.prog 76 (vptr b o) 0=some (vptr b (o + 0)):=fieldAddr_of und76 (f:=0) (fd:=(fs76[0]?).getD default) (by kernel_rfl) (sz:=1) (by kernel_rfl) (by decide) (by kernel_rfl)
theorem fa76_1 {b o:Nat}:fieldAddrA Try.prog 76 (vptr b o) 1=some (vptr b (o + 1)):=fieldAddr_of und76 (f:=1) (fd:=(fs76[1]?).getD default) (by kernel_rfl) (sz:=1) (by kernel_rfl) (by decide) (by kernel_rfl)
theorem fa78_2 {b o:Nat}:fieldAddrA Try.prog 78 (vptr b o) 2=some (vptr b (o + 2)):=fieldAddr_of und78 (f:=2) (fd:=(fs78[2]?).getD default) (by kernel_rfl) (sz:=1) (by kernel_rfl) (by decide) (by kernel_rfl)
theorem fa30_0 {b o:Nat}:fieldAddrA Try.prog 30 (vptr b o) 0=some (vptr b (o + 0)):=fieldAddr_of und30 (f:=0) (fd:=(fs30[0]?).getD default) (by kernel_rfl) (sz:=1) (by kernel_rfl) (by decide) (by kernel_rfl)
theorem fa30_1 {b o:Nat}:fieldAddrA Try.prog 30 (vptr b o) 1=some (vptr b (o + 1)):=fieldAddr_of und30 (f:=1) (fd:=(fs30[1]?).getD default) (by kernel_rfl) (sz:=1) (by kernel_rfl) (by decide) (by kernel_rfl)
theorem fa76_2 {b o:Nat}:fieldAddrA Try.prog 76 (vptr b o) 2=some (vptr b (o + 2)):=fieldAddr_of und76 (f:=2) (fd:=(fs76[2]?).getD default) (by kernel_rfl) (sz:=1) (by kernel_rfl) (by decide) (by kernel_rfl)
theorem fa76_3 {b o:Nat}:fieldAddrA Try.prog 76 (vptr b o) 3=some (vptr b (o + 3)):=fieldAddr_of und76 (f:=3) (fd:=(fs76[3]?).getD default) (by kernel_rfl) (sz:=1) (by kernel_rfl) (by decide) (by kernel_rfl)
theorem fa85_0 {b o:Nat}:fieldAddrA Try.prog 85 (vptr b o) 0=some (vptr b (o + 0)):=fieldAddr_of und85 (f:=0) (fd:=(fs85[0]?).getD default) (by kernel_rfl) (sz:=1) (by kernel_rfl) (by decide) (by kernel_rfl)
theorem fa30_4 {b o:Nat}:fieldAddrA Try.prog 30 (vptr b o) 4=some (vptr b (o + 5)):=fieldAddr_of und30 (f:=4) (fd:=(fs30[4]?).getD default) (by kernel_rfl) (sz:=1) (by kernel_rfl) (by decide) (by kernel_rfl)
theorem fa91_1 {b o:Nat}:fieldAddrA Try.prog 91 (vptr b o) 1=some (vptr b (o + 3)):=fieldAddr_of und91 (f:=1) (fd:=(fs91[1]?).getD default) (by kernel_rfl) (sz:=1) (by kernel_rfl) (by decide) (by kernel_rfl)
theorem fa99_0 {b o:Nat}:fieldAddrA Try.prog 99 (vptr b o) 0=some (vptr b (o + 0)):=fieldAddr_of und99 (f:=0) (fd:=(fs99[0]?).getD default) (by kernel_rfl) (sz:=121) (by kernel_rfl) (by decide) (by kernel_rfl)
theorem fa78_0 {b o:Nat}:fieldAddrA Try.prog 78 (vptr b o) 0=some (vptr b (o + 0)):=fieldAddr_of und78 (f:=0) (fd:=(fs78[0]?).getD default) (by kernel_rfl) (sz:=1) (by kernel_rfl) (by decide) (by kernel_rfl)
theorem fa78_1 {b o:Nat}:fieldAddrA Try.prog 78 (vptr b o) 1=some (vptr b (o + 1)):=fieldAddr_of und78 (f:=1) (fd:=(fs78[1]?).getD default) (by kernel_rfl) (sz:=1) (by kernel_rfl) (by decide) (by kernel_rfl)
theorem fa101_3 {b o:Nat}:fieldAddrA Try.prog 101 (vptr b o) 3=some (vptr b (o + 3)):=fieldAddr_of und101 (f:=3) (fd:=(fs101[3]?).getD default) (by kernel_rfl) (sz:=1) (by kernel_rfl) (by decide) (by kernel_rfl)
theorem fa61_0 {b o:Nat}:fieldAddrA Try.prog 61 (vptr b o) 0=some (vptr b (o + 0)):=fieldAddr_of und61 (f:=0) (fd:=(fs61[0]?).getD default) (by kernel_rfl) (sz:=1) (by kernel_rfl) (by decide) (by kernel_rfl)
theorem fa99_1 {b o:Nat}:fieldAddrA Try.prog 99 (vptr b o) 1=some (vptr b (o + 121)):=fieldAddr_of und99 (f:=1) (fd:=(fs99[1]?).getD default) (by kernel_rfl) (sz:=1) (by kernel_rfl) (by decide) (by kernel_rfl)
theorem fa101_0 {b o:Nat}:fieldAddrA Try.prog 101 (vptr b o) 0=some (vptr b (o + 0)):=fieldAddr_of und101 (f:=0) (fd:=(fs101[0]?).getD default) (by kernel_rfl) (sz:=1) (by kernel_rfl) (by decide) (by kernel_rfl)
theorem fa91_0 {b o:Nat}:fieldAddrA Try.prog 91 (vptr b o) 0=some (vptr b (o + 0)):=fieldAddr_of und91 (f:=0) (fd:=(fs91[0]?).getD default) (by kernel_rfl) (sz:=3) (by kernel_rfl) (by decide) (by kernel_rfl)
theorem fa101_1 {b o:Nat}:fieldAddrA Try.prog 101 (vptr b o) 1=some (vptr b (o + 1)):=fieldAddr_of und101 (f:=1) (fd:=(fs101[1]?).getD default) (by kernel_rfl) (sz:=1) (by kernel_rfl) (by decide) (by kernel_rfl)
theorem fa101_2 {b o:Nat}:fieldAddrA Try.prog 101 (vptr b o) 2=some (vptr b (o + 2)):=fieldAddr_of und101 (f:=2) (fd:=(fs101[2]?).getD default) (by kernel_rfl) (sz:=1) (by kernel_rfl) (by decide) (by kernel_rfl)
theorem fa144_0 {b o:Nat}:fieldAddrA Try.prog 144 (vptr b o) 0=some (vptr b (o + 0)):=fieldAddr_of und144 (f:=0) (fd:=(fs144[0]?).getD default) (by kernel_rfl) (sz:=1) (by kernel_rfl) (by decide) (by kernel_rfl)
theorem fa144_1 {b o:Nat}:fieldAddrA Try.prog 144 (vptr b o) 1=some (vptr b (o + 1)):=fieldAddr_of und144 (f:=1) (fd:=(fs144[1]?).getD default) (by kernel_rfl) (sz:=1) (by kernel_rfl) (by decide) (by kernel_rfl)
theorem fa144_2 {b o:Nat}:fieldAddrA Try.prog 144 (vptr b o) 2=some (vptr b (o + 2)):=fieldAddr_of und144 (f:=2) (fd:=(fs144[2]?).getD default) (by kernel_rfl) (sz:=1) (by kernel_rfl) (by decide) (by kernel_rfl)
theorem fa144_3 {b o:Nat}:fieldAddrA Try.prog 144 (vptr b o) 3=some (vptr b (o + 3)):=fieldAddr_of und144 (f:=3) (fd:=(fs144[3]?).getD default) (by kernel_rfl) (sz:=1) (by kernel_rfl) (by decide) (by kernel_rfl)
theorem fd101_1 {cs:Array Value}:fieldA Try.prog 101 (.agg cs) 1=at1 cs.toList 1:=field1_of und101 (f:=1) (fd:=(fs101[1]?).getD default) (by kernel_rfl) (by kernel_rfl) (sz:=1) (by kernel_rfl) (by kernel_rfl)
theorem fd101_2 {cs:Array Value}:fieldA Try.prog 101 (.agg cs) 2=at1 cs.toList 2:=field1_of und101 (f:=2) (fd:=(fs101[2]?).getD default) (by kernel_rfl) (by kernel_rfl) (sz:=1) (by kernel_rfl) (by kernel_rfl)
theorem ia31 {b o n c:Nat} {k:IntKind} {i:Int} (h0:0≤i) (h1:i < n):indexAddrA Try.prog 31 (.slice (some ⟨b,o,none⟩) n c) (.int k i)=some (vptr b (o + i.toNat * 1)):=indexAddrA_sl und31 sz3 h0 h1
theorem ia42 {b o n c:Nat} {k:IntKind} {i:Int} (h0:0≤i) (h1:i < n):indexAddrA Try.prog 42 (.slice (some ⟨b,o,none⟩) n c) (.int k i)=some (vptr b (o + i.toNat * 2)):=indexAddrA_sl und42 sz28 h0 h1
theorem ia24 {b o n c:Nat} {k:IntKind} {i:Int} (h0:0≤i) (h1:i < n):indexAddrA Try.prog 24 (.slice (some ⟨b,o,none⟩) n c) (.int k i)=some (vptr b (o + i.toNat * 6)):=indexAddrA_sl und24 sz30 h0 h1
theorem ia23 {b o n c:Nat} {k:IntKind} {i:Int} (h0:0≤i) (h1:i < n):indexAddrA Try.prog 23 (.slice (some ⟨b,o,none⟩) n c) (.int k i)=some (vptr b (o + i.toNat * 4)):=indexAddrA_sl und23 sz76 h0 h1
theorem ia22 {b o n c:Nat} {k:IntKind} {i:Int} (h0:0≤i) (h1:i < n):indexAddrA Try.prog 22 (.slice (some ⟨b,o,none⟩) n c) (.int k i)=some (vptr b (o + i.toNat * 3)):=indexAddrA_sl und22 sz78 h0 h1
theorem ia89 {b o n c:Nat} {k:IntKind} {i:Int} (h0:0≤i) (h1:i < n):indexAddrA Try.prog 89 (.slice (some ⟨b,o,none⟩) n c) (.int k i)=some (vptr b (o + i.toNat * 122)):=indexAddrA_sl und89 sz99 h0 h1
theorem ia96 {b o:Nat} {k:IntKind} {i:Int} (h0:0≤i) (h1:i < 11):indexAddrA Try.prog 96 (vptr b o) (.int k i)=some (vptr b (o + i.toNat * 11)):=indexAddrA_arr und96 sz94 h0 h1
theorem ia94 {b o:Nat} {k:IntKind} {i:Int} (h0:0≤i) (h1:i < 11):indexAddrA Try.prog 94 (vptr b o) (.int k i)=some (vptr b (o + i.toNat * 1)):=indexAddrA_arr und94 sz3 h0 h1
theorem ia97 {b o n c:Nat} {k:IntKind} {i:Int} (h0:0≤i) (h1:i < n):indexAddrA Try.prog 97 (.slice (some ⟨b,o,none⟩) n c) (.int k i)=some (vptr b (o + i.toNat * 4)):=indexAddrA_sl und97 sz101 h0 h1
theorem ia142 {b o n c:Nat} {k:IntKind} {i:Int} (h0:0≤i) (h1:i < n):indexAddrA Try.prog 142 (.slice (some ⟨b,o,none⟩) n c) (.int k i)=some (vptr b (o + i.toNat * 4)):=indexAddrA_sl und142 sz144 h0 h1
theorem ia150 {b o n c:Nat} {k:IntKind} {i:Int} (h0:0≤i) (h1:i < n):indexAddrA Try.prog 150 (.slice (some ⟨b,o,none⟩) n c) (.int k i)=some (vptr b (o + i.toNat * 1)):=indexAddrA_sl und150 sz114 h0 h1
theorem ia114 {b o n c:Nat} {k:IntKind} {i:Int} (h0:0≤i) (h1:i < n):indexAddrA Try.prog 114 (.slice (some ⟨b,o,none⟩) n c) (.int k i)=some (vptr b (o + i.toNat * 1)):=indexAddrA_sl und114 sz119 h0 h1
theorem ia146 {b o n c:Nat} {k:IntKind} {i:Int} (h0:0≤i) (h1:i < n):indexAddrA Try.prog 146 (.slice (some ⟨b,o,none⟩) n c) (.int k i)=some (vptr b (o + i.toNat * 121)):=indexAddrA_sl und146 sz96 h0 h1
theorem ias31 {H:AHeap} {n:Nat} {v:Value} {c:List Value} (h:SR H 1 n v c) {k:IntKind} {i:Int} (h0:0≤i) (h1:i < n):indexAddrA Try.prog 31 v (.int k i)=some (vptr (vblk v) (voff v + i.toNat * 1)):=h.indexAddr und31 sz3 h0 h1
theorem ias42 {H:AHeap} {n:Nat} {v:Value} {c:List Value} (h:SR H 2 n v c) {k:IntKind} {i:Int} (h0:0≤i) (h1:i < n):indexAddrA Try.prog 42 v (.int k i)=some (vptr (vblk v) (voff v + i.toNat * 2)):=h.indexAddr und42 sz28 h0 h1
theorem ias24 {H:AHeap} {n:Nat} {v:Value} {c:List Value} (h:SR H 6 n v c) {k:IntKind} {i:Int} (h0:0≤i) (h1:i < n):indexAddrA Try.prog 24 v (.int k i)=some (vptr (vblk v) (voff v + i.toNat * 6)):=h.indexAddr und24 sz30 h0 h1
theorem ias23 {H:AHeap} {n:Nat} {v:Value} {c:List Value} (h:SR H 4 n v c) {k:IntKind} {i:Int} (h0:0≤i) (h1:i < n):indexAddrA Try.prog 23 v (.int k i)=some (vptr (vblk v) (voff v + i.toNat * 4)):=h.indexAddr und23 sz76 h0 h1
theorem ias22 {H:AHeap} {n:Nat} {v:Value} {c:List Value} (h:SR H 3 n v c) {k:IntKind} {i:Int} (h0:0≤i) (h1:i < n):indexAddrA Try.prog 22 v (.int k i)=some (vptr (vblk v) (voff v + i.toNat * 3)):=h.indexAddr und22 sz78 h0 h1
theorem ias89 {H:AHeap} {n:Nat} {v:Value} {c:List Value} (h:SR H 122 n v c) {k:IntKind} {i:Int} (h0:0≤i) (h1:i < n):indexAddrA Try.prog 89 v (.int k i)=some (vptr (vblk v) (voff v + i.toNat * 122)):=h.indexAddr und89 sz99 h0 h1
theorem ias97 {H:AHeap} {n:Nat} {v:Value} {c:List Value} (h:SR H 4 n v c) {k:IntKind} {i:Int} (h0:0≤i) (h1:i < n):indexAddrA Try.prog 97 v (.int k i)=some (vptr (vblk v) (voff v + i.toNat * 4)):=h.indexAddr und97 sz101 h0 h1
theorem ias142 {H:AHeap} {n:Nat} {v:Value} {c:List Value} (h:SR H 4 n v c) {k:IntKind} {i:Int} (h0:0≤i) (h1:i < n):indexAddrA Try.prog 142 v (.int k i)=some (vptr (vblk v) (voff v + i.toNat * 4)):=h.indexAddr und142 sz144 h0 h1
theorem ias150 {H:AHeap} {n:Nat} {v:Value} {c:List Value} (h:SR H 1 n v c) {k:IntKind} {i:Int} (h0:0≤i) (h1:i < n):indexAddrA Try.prog 150 v (.int k i)=some (vptr (vblk v) (voff v + i.toNat * 1)):=h.indexAddr und150 sz114 h0 h1
theorem ias114 {H:AHeap} {n:Nat} {v:Value} {c:List Value} (h:SR H 1 n v c) {k:IntKind} {i:Int} (h0:0≤i) (h1:i < n):indexAddrA Try.prog 114 v (.int k i)=some (vptr (vblk v) (voff v + i.toNat * 1)):=h.indexAddr und114 sz119 h0 h1
theorem ias146 {H:AHeap} {n:Nat} {v:Value} {c:List Value} (h:SR H 121 n v c) {k:IntKind} {i:Int} (h0:0≤i) (h1:i < n):indexAddrA Try.prog 146 v (.int k i)=some (vptr (vblk v) (voff v + i.toNat * 121)):=h.indexAddr und146 sz96 h0 h1
theorem ln22 {H:AHeap} {a:Option Addr} {n c:Nat}:lenV Try.prog 22 (.slice a n c) H=some (.int .i64 n):=len_sl und22
theorem ln24 {H:AHeap} {a:Option Addr} {n c:Nat}:lenV Try.prog 24 (.slice a n c) H=some (.int .i64 n):=len_sl und24
theorem ln23 {H:AHeap} {a:Option Addr} {n c:Nat}:lenV Try.prog 23 (.slice a n c) H=some (.int .i64 n):=len_sl und23
theorem ln42 {H:AHeap} {a:Option Addr} {n c:Nat}:lenV Try.prog 42 (.slice a n c) H=some (.int .i64 n):=len_sl und42
theorem ln31 {H:AHeap} {a:Option Addr} {n c:Nat}:lenV Try.prog 31 (.slice a n c) H=some (.int .i64 n):=len_sl und31
theorem ln89 {H:AHeap} {a:Option Addr} {n c:Nat}:lenV Try.prog 89 (.slice a n c) H=some (.int .i64 n):=len_sl und89
theorem ln97 {H:AHeap} {a:Option Addr} {n c:Nat}:lenV Try.prog 97 (.slice a n c) H=some (.int .i64 n):=len_sl und97
theorem ln142 {H:AHeap} {a:Option Addr} {n c:Nat}:lenV Try.prog 142 (.slice a n c) H=some (.int .i64 n):=len_sl und142
theorem ln150 {H:AHeap} {a:Option Addr} {n c:Nat}:lenV Try.prog 150 (.slice a n c) H=some (.int .i64 n):=len_sl und150
theorem ln114 {H:AHeap} {a:Option Addr} {n c:Nat}:lenV Try.prog 114 (.slice a n c) H=some (.int .i64 n):=len_sl und114
theorem lns22 {H H':AHeap} {s n:Nat} {v:Value} {c:List Value} (h:SR H s n v c):lenV Try.prog 22 v H'=some (.int .i64 n):=h.lenV und22
theorem lns24 {H H':AHeap} {s n:Nat} {v:Value} {c:List Value} (h:SR H s n v c):lenV Try.prog 24 v H'=some (.int .i64 n):=h.lenV und24
theorem lns23 {H H':AHeap} {s n:Nat} {v:Value} {c:List Value} (h:SR H s n v c):lenV Try.prog 23 v H'=some (.int .i64 n):=h.lenV und23
theorem lns42 {H H':AHeap} {s n:Nat} {v:Value} {c:List Value} (h:SR H s n v c):lenV Try.prog 42 v H'=some (.int .i64 n):=h.lenV und42
theorem lns31 {H H':AHeap} {s n:Nat} {v:Value} {c:List Value} (h:SR H s n v c):lenV Try.prog 31 v H'=some (.int .i64 n):=h.lenV und31
theorem lns89 {H H':AHeap} {s n:Nat} {v:Value} {c:List Value} (h:SR H s n v c):lenV Try.prog 89 v H'=some (.int .i64 n):=h.lenV und89
theorem lns97 {H H':AHeap} {s n:Nat} {v:Value} {c:List Value} (h:SR H s n v c):lenV Try.prog 97 v H'=some (.int .i64 n):=h.lenV und97
theorem lns142 {H H':AHeap} {s n:Nat} {v:Value} {c:List Value} (h:SR H s n v c):lenV Try.prog 142 v H'=some (.int .i64 n):=h.lenV und142
theorem lns150 {H H':AHeap} {s n:Nat} {v:Value} {c:List Value} (h:SR H s n v c):lenV Try.prog 150 v H'=some (.int .i64 n):=h.lenV und150
theorem lns114 {H H':AHeap} {s n:Nat} {v:Value} {c:List Value} (h:SR H s n v c):lenV Try.prog 114 v H'=some (.int .i64 n):=h.lenV und114
theorem bd28 {parts:List (Nat×Value)}:buildA Try.prog 28 parts=(fillL [(0,1),(1,1)] ((.agg ([.int .i64 0,.int .i64 0]:List Value).toArray):Value).cells.toList parts).map fun c=>.agg c.toArray:=build_of zr28 (by kernel_rfl) und28 (by kernel_rfl)
theorem bd85 {parts:List (Nat×Value)}:buildA Try.prog 85 parts=(fillL [(0,1)] ((.agg ([.int .u64 0]:List Value).toArray):Value).cells.toList parts).map fun c=>.agg c.toArray:=build_of zr85 (by kernel_rfl) und85 (by kernel_rfl)
theorem bd78 {parts:List (Nat×Value)}:buildA Try.prog 78 parts=(fillL [(0,1),(1,1),(2,1)] ((.agg ([.int .i64 0,.int .i64 0,.int .i64 0]:List Value).toArray):Value).cells.toList parts).map fun c=>.agg c.toArray:=build_of zr78 (by kernel_rfl) und78 (by kernel_rfl)
theorem bd76 {parts:List (Nat×Value)}:buildA Try.prog 76 parts=(fillL [(0,1),(1,1),(2,1),(3,1)] ((.agg ([.int .i64 0,.int .i64 0,.int .i64 0,.int .i64 0]:List Value).toArray):Value).cells.toList parts).map fun c=>.agg c.toArray:=build_of zr76 (by kernel_rfl) und76 (by kernel_rfl)
theorem bd30 {parts:List (Nat×Value)}:buildA Try.prog 30 parts=(fillL [(0,1),(1,1),(2,1),(3,2),(5,1)] ((.agg ([.int .i64 0,.int .i64 0,.int .i64 0,.int .i64 0,.int .i64 0] ++ [.bool false]:List Value).toArray):Value).cells.toList parts).map fun c=>.agg c.toArray:=build_of zr30 (by kernel_rfl) und30 (by kernel_rfl)
theorem bd61 {parts:List (Nat×Value)}:buildA Try.prog 61 parts=(fillL [(0,1),(1,1)] ((.agg ([.slice none 0 0,.slice none 0 0]:List Value).toArray):Value).cells.toList parts).map fun c=>.agg c.toArray:=build_of zr61 (by kernel_rfl) und61 (by kernel_rfl)
theorem bd91 {parts:List (Nat×Value)}:buildA Try.prog 91 parts=(fillL [(0,3),(3,1)] ((.agg ([.slice none 0 0,.slice none 0 0,.slice none 0 0,.slice none 0 0]:List Value).toArray):Value).cells.toList parts).map fun c=>.agg c.toArray:=build_of zr91 (by kernel_rfl) und91 (by kernel_rfl)
theorem bd101 {parts:List (Nat×Value)}:buildA Try.prog 101 parts=(fillL [(0,1),(1,1),(2,1),(3,1)] ((.agg ([.int .i64 0,.int .i64 0,.int .i64 0,.int .i64 0]:List Value).toArray):Value).cells.toList parts).map fun c=>.agg c.toArray:=build_of zr101 (by kernel_rfl) und101 (by kernel_rfl)
theorem bd99 {parts:List (Nat×Value)}:buildA Try.prog 99 parts=(fillL [(0,121),(121,1)] ((.agg (zs 121 ++ [.slice none 0 0]:List Value).toArray):Value).cells.toList parts).map fun c=>.agg c.toArray:=build_of zr99 (by kernel_rfl) und99 (by kernel_rfl)
theorem bd144 {parts:List (Nat×Value)}:buildA Try.prog 144 parts=(fillL [(0,1),(1,1),(2,1),(3,1)] ((.agg ([.int .i64 0,.int .i64 0,.int .i64 0,.int .i64 0]:List Value).toArray):Value).cells.toList parts).map fun c=>.agg c.toArray:=build_of zr144 (by kernel_rfl) und144 (by kernel_rfl)
theorem bd85_0 {x0:Value} (h0:one x0):buildA Try.prog 85 [(0,x0)]=some (.agg ⟨[x0]⟩):=by rw [bd85];rw [fillL_one rfl h0 (by simp [*,zs_len,splice_length,Value.cells])];simp [fillL_nil,splice,zs_len,Value.cells,List.drop_append, *]
theorem bd78_0_1_2 {x0:Value} {x1:Value} {x2:Value} (h0:one x0) (h1:one x1) (h2:one x2):buildA Try.prog 78 [(0,x0),(1,x1),(2,x2)]=some (.agg ⟨[x0,x1,x2]⟩):=by rw [bd78];rw [fillL_one rfl h0 (by simp [*,zs_len,splice_length,Value.cells])];rw [fillL_one rfl h1 (by simp [*,zs_len,splice_length,Value.cells])];rw [fillL_one rfl h2 (by simp [*,zs_len,splice_length,Value.cells])];simp [fillL_nil,splice,zs_len,Value.cells,List.drop_append, *]
theorem bd76_0_1_2_3 {x0:Value} {x1:Value} {x2:Value} {x3:Value} (h0:one x0) (h1:one x1) (h2:one x2) (h3:one x3):buildA Try.prog 76 [(0,x0),(1,x1),(2,x2),(3,x3)]=some (.agg ⟨[x0,x1,x2,x3]⟩):=by rw [bd76];rw [fillL_one rfl h0 (by simp [*,zs_len,splice_length,Value.cells])];rw [fillL_one rfl h1 (by simp [*,zs_len,splice_length,Value.cells])];rw [fillL_one rfl h2 (by simp [*,zs_len,splice_length,Value.cells])];rw [fillL_one rfl h3 (by simp [*,zs_len,splice_length,Value.cells])];simp [fillL_nil,splice,zs_len,Value.cells,List.drop_append, *]
theorem bd30_0_1_2 {x0:Value} {x1:Value} {x2:Value} (h0:one x0) (h1:one x1) (h2:one x2):buildA Try.prog 30 [(0,x0),(1,x1),(2,x2)]=some (.agg ⟨[x0,x1,x2,.int .i64 0,.int .i64 0,.bool false]⟩):=by rw [bd30];rw [fillL_one rfl h0 (by simp [*,zs_len,splice_length,Value.cells])];rw [fillL_one rfl h1 (by simp [*,zs_len,splice_length,Value.cells])];rw [fillL_one rfl h2 (by simp [*,zs_len,splice_length,Value.cells])];simp [fillL_nil,splice,zs_len,Value.cells,List.drop_append, *]
theorem bd28_0_1 {x0:Value} {x1:Value} (h0:one x0) (h1:one x1):buildA Try.prog 28 [(0,x0),(1,x1)]=some (.agg ⟨[x0,x1]⟩):=by rw [bd28];rw [fillL_one rfl h0 (by simp [*,zs_len,splice_length,Value.cells])];rw [fillL_one rfl h1 (by simp [*,zs_len,splice_length,Value.cells])];simp [fillL_nil,splice,zs_len,Value.cells,List.drop_append, *]
theorem bd61_0_1 {x0:Value} {x1:Value} (h0:one x0) (h1:one x1):buildA Try.prog 61 [(0,x0),(1,x1)]=some (.agg ⟨[x0,x1]⟩):=by rw [bd61];rw [fillL_one rfl h0 (by simp [*,zs_len,splice_length,Value.cells])];rw [fillL_one rfl h1 (by simp [*,zs_len,splice_length,Value.cells])];simp [fillL_nil,splice,zs_len,Value.cells,List.drop_append, *]
theorem bd91_0 {x0:List Value} (h0:x0.length=3):buildA Try.prog 91 [(0,.agg ⟨x0⟩)]=some (.agg ⟨x0 ++ [.slice none 0 0]⟩):=by rw [bd91];rw [fillL_agg rfl h0 (by simp [*,zs_len,splice_length,Value.cells])];simp [fillL_nil,splice,zs_len,Value.cells,List.drop_append, *]
theorem bd101_0 {x0:Value} (h0:one x0):buildA Try.prog 101 [(0,x0)]=some (.agg ⟨[x0,.int .i64 0,.int .i64 0,.int .i64 0]⟩):=by rw [bd101];rw [fillL_one rfl h0 (by simp [*,zs_len,splice_length,Value.cells])];simp [fillL_nil,splice,zs_len,Value.cells,List.drop_append, *]
theorem bd99_0_1 {x0:List Value} {x1:Value} (h0:x0.length=121) (h1:one x1):buildA Try.prog 99 [(0,.agg ⟨x0⟩),(1,x1)]=some (.agg ⟨x0 ++ [x1]⟩):=by rw [bd99];rw [fillL_agg rfl h0 (by simp [*,zs_len,splice_length,Value.cells])];rw [fillL_one rfl h1 (by simp [*,zs_len,splice_length,Value.cells])];simp [fillL_nil,splice,zs_len,Value.cells,List.drop_append, *]
theorem bd144_0_1_2_3 {x0:Value} {x1:Value} {x2:Value} {x3:Value} (h0:one x0) (h1:one x1) (h2:one x2) (h3:one x3):buildA Try.prog 144 [(0,x0),(1,x1),(2,x2),(3,x3)]=some (.agg ⟨[x0,x1,x2,x3]⟩):=by rw [bd144];rw [fillL_one rfl h0 (by simp [*,zs_len,splice_length,Value.cells])];rw [fillL_one rfl h1 (by simp [*,zs_len,splice_length,Value.cells])];rw [fillL_one rfl h2 (by simp [*,zs_len,splice_length,Value.cells])];rw [fillL_one rfl h3 (by simp [*,zs_len,splice_length,Value.cells])];simp [fillL_nil,splice,zs_len,Value.cells,List.drop_append, *]
theorem bs31_2 {H:AHeap} {x0:Value} {x1:Value} (h0:one x0) (h1:one x1):buildSliceA Try.prog 31 2 [(0,x0),(1,x1)] H=some (.slice (some ⟨H.n,0,none⟩) 2 2,H.upd (H.n + 1) H.n (.cells ([x0,x1]) 3 .ex)):=buildSlice_of und31 sz3 zr3 (by kernel_rfl) (by kernel_rfl) (by decide) (by decide) rfl (by simp [elts_one h0,elts_one h1,elts_nil])
theorem bs24_1 {H:AHeap} {x0:List Value} (h0:x0.length=6):buildSliceA Try.prog 24 1 [(0,.agg ⟨x0⟩)] H=some (.slice (some ⟨H.n,0,none⟩) 1 1,H.upd (H.n + 1) H.n (.cells (x0) 30 .ex)):=buildSlice_of und24 sz30 zr30 (by kernel_rfl) (by kernel_rfl) (by decide) (by decide) rfl (by simp [elts_agg h0,elts_nil])
theorem bs31_4 {H:AHeap} {x0:Value} {x1:Value} {x2:Value} {x3:Value} (h0:one x0) (h1:one x1) (h2:one x2) (h3:one x3):buildSliceA Try.prog 31 4 [(0,x0),(1,x1),(2,x2),(3,x3)] H=some (.slice (some ⟨H.n,0,none⟩) 4 4,H.upd (H.n + 1) H.n (.cells ([x0,x1,x2,x3]) 3 .ex)):=buildSlice_of und31 sz3 zr3 (by kernel_rfl) (by kernel_rfl) (by decide) (by decide) rfl (by simp [elts_one h0,elts_one h1,elts_one h2,elts_one h3,elts_nil])
theorem bs31_3 {H:AHeap} {x0:Value} {x1:Value} {x2:Value} (h0:one x0) (h1:one x1) (h2:one x2):buildSliceA Try.prog 31 3 [(0,x0),(1,x1),(2,x2)] H=some (.slice (some ⟨H.n,0,none⟩) 3 3,H.upd (H.n + 1) H.n (.cells ([x0,x1,x2]) 3 .ex)):=buildSlice_of und31 sz3 zr3 (by kernel_rfl) (by kernel_rfl) (by decide) (by decide) rfl (by simp [elts_one h0,elts_one h1,elts_one h2,elts_nil])
theorem bs31_1 {H:AHeap} {x0:Value} (h0:one x0):buildSliceA Try.prog 31 1 [(0,x0)] H=some (.slice (some ⟨H.n,0,none⟩) 1 1,H.upd (H.n + 1) H.n (.cells ([x0]) 3 .ex)):=buildSlice_of und31 sz3 zr3 (by kernel_rfl) (by kernel_rfl) (by decide) (by decide) rfl (by simp [elts_one h0,elts_nil])
theorem bs22_1 {H:AHeap} {x0:List Value} (h0:x0.length=3):buildSliceA Try.prog 22 1 [(0,.agg ⟨x0⟩)] H=some (.slice (some ⟨H.n,0,none⟩) 1 1,H.upd (H.n + 1) H.n (.cells (x0) 78 .ex)):=buildSlice_of und22 sz78 zr78 (by kernel_rfl) (by kernel_rfl) (by decide) (by decide) rfl (by simp [elts_agg h0,elts_nil])
theorem bs23_1 {H:AHeap} {x0:List Value} (h0:x0.length=4):buildSliceA Try.prog 23 1 [(0,.agg ⟨x0⟩)] H=some (.slice (some ⟨H.n,0,none⟩) 1 1,H.upd (H.n + 1) H.n (.cells (x0) 76 .ex)):=buildSlice_of und23 sz76 zr76 (by kernel_rfl) (by kernel_rfl) (by decide) (by decide) rfl (by simp [elts_agg h0,elts_nil])
theorem bs42_1 {H:AHeap} {x0:List Value} (h0:x0.length=2):buildSliceA Try.prog 42 1 [(0,.agg ⟨x0⟩)] H=some (.slice (some ⟨H.n,0,none⟩) 1 1,H.upd (H.n + 1) H.n (.cells (x0) 28 .ex)):=buildSlice_of und42 sz28 zr28 (by kernel_rfl) (by kernel_rfl) (by decide) (by decide) rfl (by simp [elts_agg h0,elts_nil])
theorem bs150_2 {H:AHeap} {x0:Value} {x1:Value} (h0:one x0) (h1:one x1):buildSliceA Try.prog 150 2 [(0,x0),(1,x1)] H=some (.slice (some ⟨H.n,0,none⟩) 2 2,H.upd (H.n + 1) H.n (.cells ([x0,x1]) 114 .ex)):=buildSlice_of und150 sz114 zr114 (by kernel_rfl) (by kernel_rfl) (by decide) (by decide) rfl (by simp [elts_one h0,elts_one h1,elts_nil])
theorem bs89_1 {H:AHeap} {x0:List Value} (h0:x0.length=122):buildSliceA Try.prog 89 1 [(0,.agg ⟨x0⟩)] H=some (.slice (some ⟨H.n,0,none⟩) 1 1,H.upd (H.n + 1) H.n (.cells (x0) 99 .ex)):=buildSlice_of und89 sz99 zr99 (by kernel_rfl) (by kernel_rfl) (by decide) (by decide) rfl (by simp [elts_agg h0,elts_nil])
theorem bs146_1 {H:AHeap} {x0:List Value} (h0:x0.length=121):buildSliceA Try.prog 146 1 [(0,.agg ⟨x0⟩)] H=some (.slice (some ⟨H.n,0,none⟩) 1 1,H.upd (H.n + 1) H.n (.cells (x0) 96 .ex)):=buildSlice_of und146 sz96 zr96 (by kernel_rfl) (by kernel_rfl) (by decide) (by decide) rfl (by simp [elts_agg h0,elts_nil])
theorem bs97_1 {H:AHeap} {x0:List Value} (h0:x0.length=4):buildSliceA Try.prog 97 1 [(0,.agg ⟨x0⟩)] H=some (.slice (some ⟨H.n,0,none⟩) 1 1,H.upd (H.n + 1) H.n (.cells (x0) 101 .ex)):=buildSlice_of und97 sz101 zr101 (by kernel_rfl) (by kernel_rfl) (by decide) (by decide) rfl (by simp [elts_agg h0,elts_nil])
theorem bs114_1 {H:AHeap} {x0:Value} (h0:one x0):buildSliceA Try.prog 114 1 [(0,x0)] H=some (.slice (some ⟨H.n,0,none⟩) 1 1,H.upd (H.n + 1) H.n (.cells ([x0]) 119 .ex)):=buildSlice_of und114 sz119 zr119 (by kernel_rfl) (by kernel_rfl) (by decide) (by decide) rfl (by simp [elts_one h0,elts_nil])
theorem bs146_0 {H:AHeap}  :buildSliceA Try.prog 146 0 [] H=some (.slice (some ⟨H.n,0,none⟩) 0 0,H.upd (H.n + 1) H.n (.cells ([]) 96 .ex)):=buildSlice_of und146 sz96 zr96 (by kernel_rfl) (by kernel_rfl) (by decide) (by decide) rfl (by simp [elts_nil])
theorem bs142_2 {H:AHeap} {x0:List Value} {x1:List Value} (h0:x0.length=4) (h1:x1.length=4):buildSliceA Try.prog 142 2 [(0,.agg ⟨x0⟩),(1,.agg ⟨x1⟩)] H=some (.slice (some ⟨H.n,0,none⟩) 2 2,H.upd (H.n + 1) H.n (.cells (x0 ++ x1) 144 .ex)):=buildSlice_of und142 sz144 zr144 (by kernel_rfl) (by kernel_rfl) (by decide) (by decide) rfl (by simp [elts_agg h0,elts_agg h1,elts_nil])
theorem bs142_1 {H:AHeap} {x0:List Value} (h0:x0.length=4):buildSliceA Try.prog 142 1 [(0,.agg ⟨x0⟩)] H=some (.slice (some ⟨H.n,0,none⟩) 1 1,H.upd (H.n + 1) H.n (.cells (x0) 144 .ex)):=buildSlice_of und142 sz144 zr144 (by kernel_rfl) (by kernel_rfl) (by decide) (by decide) rfl (by simp [elts_agg h0,elts_nil])
theorem ms31 {H:AHeap} {k k':IntKind} {n m:Int} (h1:0≤n) (h2:n≤m) (h3:m≤1099511627776) (h4:8 * m≤1099511627776):makeSliceA Try.prog 31 (.int k n) (.int k' m) H=some (.slice (some ⟨H.n,0,none⟩) n.toNat m.toNat,H.upd (H.n + 1) H.n (.cells (List.replicate m.toNat (.int .i64 0)) 3 .ex)):=(makeSlice_of und31 sz3 zr3 by3 (by kernel_rfl) (by kernel_rfl) (by decide) h1 h2 h3 h4).trans (by rw [show (.int .i64 0:Value).cells.toList=[.int .i64 0] from rfl,zeros_one])
theorem ap24 {H:AHeap} {n m:Nat} {v x:Value} {c new:List Value} {g:Option Nat} (G:GS H 6 n v c g) (S:SR H 6 m x new) (hm:0 < m) (h1:n + m≤1099511627776) (h2:(n + m) * 48≤1099511627776):appendOp Try.prog #[24,24] [v,x] H=some (.slice (some ⟨H.n,0,none⟩) (n + m) (n + m),H.upd (H.n + 1) H.n (.cells (c ++ new) 30 (.gr (g.getD H.n) 6 true))):=(appendOp_of und24 und24 sz30 S).trans (GS.push und24 sz30 by30 zr30 (by kernel_rfl) (by kernel_rfl) (by decide) G S.len hm h1 h2)
theorem ap22 {H:AHeap} {n m:Nat} {v x:Value} {c new:List Value} {g:Option Nat} (G:GS H 3 n v c g) (S:SR H 3 m x new) (hm:0 < m) (h1:n + m≤1099511627776) (h2:(n + m) * 24≤1099511627776):appendOp Try.prog #[22,22] [v,x] H=some (.slice (some ⟨H.n,0,none⟩) (n + m) (n + m),H.upd (H.n + 1) H.n (.cells (c ++ new) 78 (.gr (g.getD H.n) 3 true))):=(appendOp_of und22 und22 sz78 S).trans (GS.push und22 sz78 by78 zr78 (by kernel_rfl) (by kernel_rfl) (by decide) G S.len hm h1 h2)
theorem ap23 {H:AHeap} {n m:Nat} {v x:Value} {c new:List Value} {g:Option Nat} (G:GS H 4 n v c g) (S:SR H 4 m x new) (hm:0 < m) (h1:n + m≤1099511627776) (h2:(n + m) * 32≤1099511627776):appendOp Try.prog #[23,23] [v,x] H=some (.slice (some ⟨H.n,0,none⟩) (n + m) (n + m),H.upd (H.n + 1) H.n (.cells (c ++ new) 76 (.gr (g.getD H.n) 4 true))):=(appendOp_of und23 und23 sz76 S).trans (GS.push und23 sz76 by76 zr76 (by kernel_rfl) (by kernel_rfl) (by decide) G S.len hm h1 h2)
theorem ap31 {H:AHeap} {n m:Nat} {v x:Value} {c new:List Value} {g:Option Nat} (G:GS H 1 n v c g) (S:SR H 1 m x new) (hm:0 < m) (h1:n + m≤1099511627776) (h2:(n + m) * 8≤1099511627776):appendOp Try.prog #[31,31] [v,x] H=some (.slice (some ⟨H.n,0,none⟩) (n + m) (n + m),H.upd (H.n + 1) H.n (.cells (c ++ new) 3 (.gr (g.getD H.n) 1 true))):=(appendOp_of und31 und31 sz3 S).trans (GS.push und31 sz3 by3 zr3 (by kernel_rfl) (by kernel_rfl) (by decide) G S.len hm h1 h2)
theorem ap42 {H:AHeap} {n m:Nat} {v x:Value} {c new:List Value} {g:Option Nat} (G:GS H 2 n v c g) (S:SR H 2 m x new) (hm:0 < m) (h1:n + m≤1099511627776) (h2:(n + m) * 16≤1099511627776):appendOp Try.prog #[42,42] [v,x] H=some (.slice (some ⟨H.n,0,none⟩) (n + m) (n + m),H.upd (H.n + 1) H.n (.cells (c ++ new) 28 (.gr (g.getD H.n) 2 true))):=(appendOp_of und42 und42 sz28 S).trans (GS.push und42 sz28 by28 zr28 (by kernel_rfl) (by kernel_rfl) (by decide) G S.len hm h1 h2)
theorem ap114 {H:AHeap} {n m:Nat} {v x:Value} {c new:List Value} {g:Option Nat} (G:GS H 1 n v c g) (S:SR H 1 m x new) (hm:0 < m) (h1:n + m≤1099511627776) (h2:(n + m) * 8≤1099511627776):appendOp Try.prog #[114,114] [v,x] H=some (.slice (some ⟨H.n,0,none⟩) (n + m) (n + m),H.upd (H.n + 1) H.n (.cells (c ++ new) 119 (.gr (g.getD H.n) 1 true))):=(appendOp_of und114 und114 sz119 S).trans (GS.push und114 sz119 by119 zr119 (by kernel_rfl) (by kernel_rfl) (by decide) G S.len hm h1 h2)
theorem ap89 {H:AHeap} {n m:Nat} {v x:Value} {c new:List Value} {g:Option Nat} (G:GS H 122 n v c g) (S:SR H 122 m x new) (hm:0 < m) (h1:n + m≤1099511627776) (h2:(n + m) * 992≤1099511627776):appendOp Try.prog #[89,89] [v,x] H=some (.slice (some ⟨H.n,0,none⟩) (n + m) (n + m),H.upd (H.n + 1) H.n (.cells (c ++ new) 99 (.gr (g.getD H.n) 122 true))):=(appendOp_of und89 und89 sz99 S).trans (GS.push und89 sz99 by99 zr99 (by kernel_rfl) (by kernel_rfl) (by decide) G S.len hm h1 h2)
theorem ap146 {H:AHeap} {n m:Nat} {v x:Value} {c new:List Value} {g:Option Nat} (G:GS H 121 n v c g) (S:SR H 121 m x new) (hm:0 < m) (h1:n + m≤1099511627776) (h2:(n + m) * 968≤1099511627776):appendOp Try.prog #[146,146] [v,x] H=some (.slice (some ⟨H.n,0,none⟩) (n + m) (n + m),H.upd (H.n + 1) H.n (.cells (c ++ new) 96 (.gr (g.getD H.n) 121 true))):=(appendOp_of und146 und146 sz96 S).trans (GS.push und146 sz96 by96 zr96 (by kernel_rfl) (by kernel_rfl) (by decide) G S.len hm h1 h2)
theorem ap97 {H:AHeap} {n m:Nat} {v x:Value} {c new:List Value} {g:Option Nat} (G:GS H 4 n v c g) (S:SR H 4 m x new) (hm:0 < m) (h1:n + m≤1099511627776) (h2:(n + m) * 32≤1099511627776):appendOp Try.prog #[97,97] [v,x] H=some (.slice (some ⟨H.n,0,none⟩) (n + m) (n + m),H.upd (H.n + 1) H.n (.cells (c ++ new) 101 (.gr (g.getD H.n) 4 true))):=(appendOp_of und97 und97 sz101 S).trans (GS.push und97 sz101 by101 zr101 (by kernel_rfl) (by kernel_rfl) (by decide) G S.len hm h1 h2)
theorem apz114 {H:AHeap} {n:Nat} {v x:Value} {c new:List Value} {g:Option Nat} (G:GS H 1 n v c g) (S:SR H 1 0 x new):appendOp Try.prog #[114,114] [v,x] H=some (v,H):=(appendOp_of und114 und114 sz119 S).trans (append0 und114 sz119 by119 zr119 (by kernel_rfl) (by kernel_rfl) (by decide) G (by simpa using S.len))
theorem pu24 {H:AHeap} {n m:Nat} {v x:Value} {c new:List Value} {g:Option Nat} {K:Value→AHeap→Prop} (G:GS H 6 n v c g) (S:SR H 6 m x new) (hm:0 < m) (h1:n + m≤1099511627776) (h2:(n + m) * 48≤1099511627776) (ht:Top H) (k:GS (H.upd (H.n + 1) H.n (.cells (c ++ new) 30 (.gr (g.getD H.n) 6 true))) 6 (n + m) (.slice (some ⟨H.n,0,none⟩) (n + m) (n + m)) (c ++ new) (some (g.getD H.n))→K (.slice (some ⟨H.n,0,none⟩) (n + m) (n + m)) (H.upd (H.n + 1) H.n (.cells (c ++ new) 30 (.gr (g.getD H.n) 6 true)))):oB (appendOp Try.prog #[24,24] [v,x] H) K:=by rw [ap24 G S hm h1 h2];exact k (GS.pushed ht G S.len)
theorem pu22 {H:AHeap} {n m:Nat} {v x:Value} {c new:List Value} {g:Option Nat} {K:Value→AHeap→Prop} (G:GS H 3 n v c g) (S:SR H 3 m x new) (hm:0 < m) (h1:n + m≤1099511627776) (h2:(n + m) * 24≤1099511627776) (ht:Top H) (k:GS (H.upd (H.n + 1) H.n (.cells (c ++ new) 78 (.gr (g.getD H.n) 3 true))) 3 (n + m) (.slice (some ⟨H.n,0,none⟩) (n + m) (n + m)) (c ++ new) (some (g.getD H.n))→K (.slice (some ⟨H.n,0,none⟩) (n + m) (n + m)) (H.upd (H.n + 1) H.n (.cells (c ++ new) 78 (.gr (g.getD H.n) 3 true)))):oB (appendOp Try.prog #[22,22] [v,x] H) K:=by rw [ap22 G S hm h1 h2];exact k (GS.pushed ht G S.len)
theorem pu23 {H:AHeap} {n m:Nat} {v x:Value} {c new:List Value} {g:Option Nat} {K:Value→AHeap→Prop} (G:GS H 4 n v c g) (S:SR H 4 m x new) (hm:0 < m) (h1:n + m≤1099511627776) (h2:(n + m) * 32≤1099511627776) (ht:Top H) (k:GS (H.upd (H.n + 1) H.n (.cells (c ++ new) 76 (.gr (g.getD H.n) 4 true))) 4 (n + m) (.slice (some ⟨H.n,0,none⟩) (n + m) (n + m)) (c ++ new) (some (g.getD H.n))→K (.slice (some ⟨H.n,0,none⟩) (n + m) (n + m)) (H.upd (H.n + 1) H.n (.cells (c ++ new) 76 (.gr (g.getD H.n) 4 true)))):oB (appendOp Try.prog #[23,23] [v,x] H) K:=by rw [ap23 G S hm h1 h2];exact k (GS.pushed ht G S.len)
theorem pu31 {H:AHeap} {n m:Nat} {v x:Value} {c new:List Value} {g:Option Nat} {K:Value→AHeap→Prop} (G:GS H 1 n v c g) (S:SR H 1 m x new) (hm:0 < m) (h1:n + m≤1099511627776) (h2:(n + m) * 8≤1099511627776) (ht:Top H) (k:GS (H.upd (H.n + 1) H.n (.cells (c ++ new) 3 (.gr (g.getD H.n) 1 true))) 1 (n + m) (.slice (some ⟨H.n,0,none⟩) (n + m) (n + m)) (c ++ new) (some (g.getD H.n))→K (.slice (some ⟨H.n,0,none⟩) (n + m) (n + m)) (H.upd (H.n + 1) H.n (.cells (c ++ new) 3 (.gr (g.getD H.n) 1 true)))):oB (appendOp Try.prog #[31,31] [v,x] H) K:=by rw [ap31 G S hm h1 h2];exact k (GS.pushed ht G S.len)
theorem pu42 {H:AHeap} {n m:Nat} {v x:Value} {c new:List Value} {g:Option Nat} {K:Value→AHeap→Prop} (G:GS H 2 n v c g) (S:SR H 2 m x new) (hm:0 < m) (h1:n + m≤1099511627776) (h2:(n + m) * 16≤1099511627776) (ht:Top H) (k:GS (H.upd (H.n + 1) H.n (.cells (c ++ new) 28 (.gr (g.getD H.n) 2 true))) 2 (n + m) (.slice (some ⟨H.n,0,none⟩) (n + m) (n + m)) (c ++ new) (some (g.getD H.n))→K (.slice (some ⟨H.n,0,none⟩) (n + m) (n + m)) (H.upd (H.n + 1) H.n (.cells (c ++ new) 28 (.gr (g.getD H.n) 2 true)))):oB (appendOp Try.prog #[42,42] [v,x] H) K:=by rw [ap42 G S hm h1 h2];exact k (GS.pushed ht G S.len)
theorem pu114 {H:AHeap} {n m:Nat} {v x:Value} {c new:List Value} {g:Option Nat} {K:Value→AHeap→Prop} (G:GS H 1 n v c g) (S:SR H 1 m x new) (hm:0 < m) (h1:n + m≤1099511627776) (h2:(n + m) * 8≤1099511627776) (ht:Top H) (k:GS (H.upd (H.n + 1) H.n (.cells (c ++ new) 119 (.gr (g.getD H.n) 1 true))) 1 (n + m) (.slice (some ⟨H.n,0,none⟩) (n + m) (n + m)) (c ++ new) (some (g.getD H.n))→K (.slice (some ⟨H.n,0,none⟩) (n + m) (n + m)) (H.upd (H.n + 1) H.n (.cells (c ++ new) 119 (.gr (g.getD H.n) 1 true)))):oB (appendOp Try.prog #[114,114] [v,x] H) K:=by rw [ap114 G S hm h1 h2];exact k (GS.pushed ht G S.len)
theorem pu89 {H:AHeap} {n m:Nat} {v x:Value} {c new:List Value} {g:Option Nat} {K:Value→AHeap→Prop} (G:GS H 122 n v c g) (S:SR H 122 m x new) (hm:0 < m) (h1:n + m≤1099511627776) (h2:(n + m) * 992≤1099511627776) (ht:Top H) (k:GS (H.upd (H.n + 1) H.n (.cells (c ++ new) 99 (.gr (g.getD H.n) 122 true))) 122 (n + m) (.slice (some ⟨H.n,0,none⟩) (n + m) (n + m)) (c ++ new) (some (g.getD H.n))→K (.slice (some ⟨H.n,0,none⟩) (n + m) (n + m)) (H.upd (H.n + 1) H.n (.cells (c ++ new) 99 (.gr (g.getD H.n) 122 true)))):oB (appendOp Try.prog #[89,89] [v,x] H) K:=by rw [ap89 G S hm h1 h2];exact k (GS.pushed ht G S.len)
theorem pu146 {H:AHeap} {n m:Nat} {v x:Value} {c new:List Value} {g:Option Nat} {K:Value→AHeap→Prop} (G:GS H 121 n v c g) (S:SR H 121 m x new) (hm:0 < m) (h1:n + m≤1099511627776) (h2:(n + m) * 968≤1099511627776) (ht:Top H) (k:GS (H.upd (H.n + 1) H.n (.cells (c ++ new) 96 (.gr (g.getD H.n) 121 true))) 121 (n + m) (.slice (some ⟨H.n,0,none⟩) (n + m) (n + m)) (c ++ new) (some (g.getD H.n))→K (.slice (some ⟨H.n,0,none⟩) (n + m) (n + m)) (H.upd (H.n + 1) H.n (.cells (c ++ new) 96 (.gr (g.getD H.n) 121 true)))):oB (appendOp Try.prog #[146,146] [v,x] H) K:=by rw [ap146 G S hm h1 h2];exact k (GS.pushed ht G S.len)
theorem pu97 {H:AHeap} {n m:Nat} {v x:Value} {c new:List Value} {g:Option Nat} {K:Value→AHeap→Prop} (G:GS H 4 n v c g) (S:SR H 4 m x new) (hm:0 < m) (h1:n + m≤1099511627776) (h2:(n + m) * 32≤1099511627776) (ht:Top H) (k:GS (H.upd (H.n + 1) H.n (.cells (c ++ new) 101 (.gr (g.getD H.n) 4 true))) 4 (n + m) (.slice (some ⟨H.n,0,none⟩) (n + m) (n + m)) (c ++ new) (some (g.getD H.n))→K (.slice (some ⟨H.n,0,none⟩) (n + m) (n + m)) (H.upd (H.n + 1) H.n (.cells (c ++ new) 101 (.gr (g.getD H.n) 4 true)))):oB (appendOp Try.prog #[97,97] [v,x] H) K:=by rw [ap97 G S hm h1 h2];exact k (GS.pushed ht G S.len)
theorem cv3_83 {k:IntKind} {a:Int}:convA Try.prog 3 83 (.int k a)=some (.int .u64 (IntKind.wrap .u64 a)):=conv_int und3 und83
theorem cv83_3 {k:IntKind} {a:Int}:convA Try.prog 83 3 (.int k a)=some (.int .i64 (IntKind.wrap .i64 a)):=conv_int und83 und3
def tb6:=(And.intro (And.intro (And.intro (And.intro @al26 @al61) (And.intro @bs31_3 @fa26_0)) (And.intro (And.intro @fa26_2 @ia42) (And.intro @ld22 @ld24))) (And.intro (And.intro (And.intro @ld26 @ld28) (And.intro @ld61 @ln22)) (And.intro (And.intro @ln24 @ln42) (And.intro @st26 @st61))))
def tb16:=(And.intro (And.intro (And.intro @bd85_0 @cv3_83) (And.intro @fa85_0 @ia31)) (And.intro (And.intro @ld3 @ld83) (And.intro @ln31 @st83)))
def tb17:=(And.intro (And.intro (And.intro (And.intro (And.intro @al26 @al30) (And.intro @bd28_0_1 @bd30_0_1_2)) (And.intro (And.intro @bd76_0_1_2_3 @bd78_0_1_2) (And.intro @bs22_1 (And.intro @bs23_1 @bs24_1)))) (And.intro (And.intro (And.intro @bs31_1 @bs31_2) (And.intro @bs31_3 (And.intro @bs31_4 @fa26_0))) (And.intro (And.intro @fa26_1 @fa26_2) (And.intro @fa30_1 (And.intro @fa30_2 @fa30_3))))) (And.intro (And.intro (And.intro (And.intro @fa30_4 @ia31) (And.intro @ld22 @ld23)) (And.intro (And.intro @ld24 @ld26) (And.intro @ld3 (And.intro @ld30 @ln22)))) (And.intro (And.intro (And.intro @ln23 @ms31) (And.intro @st22 (And.intro @st23 @st24))) (And.intro (And.intro @st26 @st28) (And.intro @st3 (And.intro @st30 @st4))))))
def tb18:=(And.intro @ia31 (And.intro @ld3 @ln31))
def tb20:=(And.intro @cv3_83 @cv83_3)
def tb21:=(And.intro (And.intro (And.intro (And.intro @al101 @al91) (And.intro @al99 @bd28_0_1)) (And.intro (And.intro @bs42_1 @fa91_1) (And.intro @ia89 @ld101))) (And.intro (And.intro (And.intro @ld26 @ld89) (And.intro @ld91 @ld99)) (And.intro (And.intro @ln89 @st101) (And.intro @st91 @st99))))
def tb23:=(And.intro (And.intro (And.intro (And.intro @al91 @al99) (And.intro @fa26_0 @fa91_1)) (And.intro (And.intro @fa99_0 @fd101_1) (And.intro @fd101_2 (And.intro @ia89 @ia94)))) (And.intro (And.intro (And.intro @ia96 @ld22) (And.intro @ld26 (And.intro @ld3 @ld89))) (And.intro (And.intro @ld91 @ld99) (And.intro @ln22 (And.intro @st91 @st99)))))
def tb25:=(And.intro (And.intro (And.intro (And.intro @al30 (And.intro @al76 @al78)) (And.intro (And.intro @fa26_0 @fa26_1) (And.intro @fa26_2 @fa30_0))) (And.intro (And.intro (And.intro @fa76_0 @fa76_1) (And.intro @fa76_2 @fa76_3)) (And.intro (And.intro @fa78_0 @fa78_1) (And.intro @fa78_2 @ia22)))) (And.intro (And.intro (And.intro (And.intro @ia23 @ia24) (And.intro @ld22 @ld23)) (And.intro (And.intro @ld24 @ld26) (And.intro @ld3 @ld30))) (And.intro (And.intro (And.intro @ld76 @ld78) (And.intro @ln22 @ln23)) (And.intro (And.intro @ln24 @st30) (And.intro @st76 @st78)))))
def tb29:=(And.intro (And.intro @al91 @bs150_2) (And.intro @ld26 (And.intro @ld91 @st91)))
def tb31:=@ev_tmp
def tb35:=(And.intro (And.intro (And.intro (And.intro @al30 (And.intro @al61 @bd61_0_1)) (And.intro @fa26_0 (And.intro @fa26_2 @fa30_0))) (And.intro (And.intro @fa30_1 (And.intro @fa30_4 @fa61_0)) (And.intro (And.intro @fa61_1 @ia24) (And.intro @ia31 @ld22)))) (And.intro (And.intro (And.intro @ld24 (And.intro @ld3 @ld30)) (And.intro @ld31 (And.intro @ld4 @ld61))) (And.intro (And.intro @ln22 (And.intro @ln24 @ln31)) (And.intro (And.intro @ms31 @st3) (And.intro @st30 @st61)))))
def tb36:=(And.intro @fa28_0 (And.intro @fa28_1 @ld3))
def tb37:=(And.intro (And.intro (And.intro @fa26_2 @fa30_1) (And.intro @fa61_0 @ia24)) (And.intro (And.intro @ia31 @ld24) (And.intro @ld3 (And.intro @ld31 @ln31))))
def tb38:=@ev_tmp
def tb39:=(And.intro (And.intro (And.intro @fa26_2 @fa30_0) (And.intro @fa30_1 (And.intro @fa61_0 @ia24))) (And.intro (And.intro @ia31 @ld24) (And.intro @ld3 (And.intro @ld31 @ln31))))
def tb40:=@ld26
def tb41:=@ev_tmp
def tb48:=(And.intro (And.intro (And.intro @al78 (And.intro @fa26_0 @fa26_1)) (And.intro @fa76_2 (And.intro @fa78_0 @fa78_1))) (And.intro (And.intro @ia22 (And.intro @ia23 @ld22)) (And.intro (And.intro @ld23 @ld3) (And.intro @ld78 @st78))))
def tb52:=(And.intro @fa85_0 (And.intro @ld83 @st83))
def tb53:=@ev_tmp
def tb54:=(And.intro (And.intro (And.intro @al91 (And.intro @al99 @bd91_0)) (And.intro (And.intro @bs89_1 @fa26_0) (And.intro @fa91_1 @ld22))) (And.intro (And.intro (And.intro @ld26 @ld89) (And.intro @ld91 @ld99)) (And.intro (And.intro @ln22 @st89) (And.intro @st91 @st99))))
def tb55:=(And.intro (And.intro (And.intro @al101 @fa101_0) (And.intro @fa99_1 @ia97)) (And.intro (And.intro @ld101 @ld3) (And.intro @ld97 (And.intro @ln97 @st101))))
def tb56:=(And.intro (And.intro @fa26_2 (And.intro @fa30_0 @fa91_0)) (And.intro (And.intro @ia24 @ld24) (And.intro @ld3 @ln24)))
def tb57:=(And.intro (And.intro @fa101_1 (And.intro @fa101_2 @fa99_0)) (And.intro @ia94 (And.intro @ia96 @ld3)))
def tb58:=(And.intro (And.intro @fa101_1 (And.intro @fa101_2 @fa99_0)) (And.intro @ia94 (And.intro @ia96 @ld3)))
def tb65:=@ev_tmp
def tb66:=(And.intro (And.intro (And.intro @fa26_0 (And.intro @fa26_1 @fa28_0)) (And.intro (And.intro @fa28_1 @fa30_0) (And.intro @fa30_1 @fa30_2))) (And.intro (And.intro (And.intro @fa30_3 @fa30_4) (And.intro @ld22 @ld23)) (And.intro (And.intro @ld3 @ld4) (And.intro @ln22 @ln23))))
def tb68:=(And.intro (And.intro @fa26_0 @fa91_0) (And.intro @ld22 (And.intro @ld91 @ln22)))
def tb69:=@ev_tmp
def tb70:=(And.intro (And.intro (And.intro (And.intro @al144 @fa144_0) (And.intro @fa144_1 @fa144_2)) (And.intro (And.intro @fa144_3 @fa91_1) (And.intro @fa99_0 @ia142))) (And.intro (And.intro (And.intro @ia89 @ia94) (And.intro @ia96 @ld144)) (And.intro (And.intro @ld3 @ld89) (And.intro @ln142 @st144))))
def tb71:=@ev_tmp
def tb72:=(And.intro (And.intro (And.intro @al145 (And.intro @al99 @bs146_1)) (And.intro @fa91_1 (And.intro @fa99_0 @ia89))) (And.intro (And.intro @ld145 (And.intro @ld89 @ld96)) (And.intro (And.intro @ld99 @ln89) (And.intro @st145 @st99))))
def tb73:=(And.intro (And.intro @ia150 @ld114) (And.intro @ln114 @ln150))
def tb77:=(And.intro (And.intro (And.intro @al78 @fa26_0) (And.intro @fa78_0 (And.intro @fa78_1 @ia22))) (And.intro (And.intro @ld22 @ld3) (And.intro @ld78 (And.intro @ln22 @st78))))
def tb78:=(And.intro (And.intro (And.intro @al76 (And.intro @fa26_0 @fa26_1)) (And.intro @fa76_0 (And.intro @fa76_1 @fa78_2))) (And.intro (And.intro @ia22 (And.intro @ia23 @ld22)) (And.intro (And.intro @ld23 @ld3) (And.intro @ld76 @st76))))
def tb80:=(And.intro (And.intro (And.intro (And.intro (And.intro @al30 @al61) (And.intro @fa26_0 @fa26_1)) (And.intro (And.intro @fa26_2 @fa30_0) (And.intro @fa30_1 @fa30_2))) (And.intro (And.intro (And.intro @fa30_4 @fa61_0) (And.intro @fa61_1 @fa76_0)) (And.intro (And.intro @fa76_1 @fa76_3) (And.intro @fa78_2 @ia22)))) (And.intro (And.intro (And.intro (And.intro @ia23 @ia24) (And.intro @ia31 @ld22)) (And.intro (And.intro @ld23 @ld24) (And.intro @ld26 @ld3))) (And.intro (And.intro (And.intro @ld30 @ld31) (And.intro @ld4 @ld61)) (And.intro (And.intro @ln22 @ln24) (And.intro @st30 @st61)))))
def tb83:=(And.intro (And.intro (And.intro (And.intro (And.intro @al101 @al154) (And.intro @al3 @al30)) (And.intro (And.intro @al4 @al99) (And.intro @bd101_0 @bd99_0_1))) (And.intro (And.intro (And.intro @bs97_1 @fa101_0) (And.intro @fa101_1 @fa101_2)) (And.intro (And.intro @fa101_3 @fa28_0) (And.intro @fa28_1 (And.intro @fa30_2 @fa30_3))))) (And.intro (And.intro (And.intro (And.intro @fa30_4 @fa99_1) (And.intro @ia97 @ld101)) (And.intro (And.intro @ld154 @ld26) (And.intro @ld3 (And.intro @ld4 @ld97)))) (And.intro (And.intro (And.intro @ld99 @ln97) (And.intro @st101 @st154)) (And.intro (And.intro @st3 @st30) (And.intro @st4 (And.intro @st97 @st99))))))
def tb88:=(And.intro (And.intro (And.intro (And.intro (And.intro @al101 @al114) (And.intro @al3 @al30)) (And.intro (And.intro @al99 @bd144_0_1_2_3) (And.intro @bs114_1 @fa101_1))) (And.intro (And.intro (And.intro @fa101_2 @fa101_3) (And.intro @fa26_1 @fa30_0)) (And.intro (And.intro @fa30_2 @fa30_4) (And.intro @fa76_3 (And.intro @fa91_0 @fa91_1))))) (And.intro (And.intro (And.intro (And.intro @fd101_1 @ia23) (And.intro @ia89 @ld101)) (And.intro (And.intro @ld114 @ld23) (And.intro @ld26 @ld3))) (And.intro (And.intro (And.intro @ld4 @ld89) (And.intro @ld91 @ld99)) (And.intro (And.intro @st101 @st114) (And.intro @st3 (And.intro @st30 @st99))))))
def tb89:=(And.intro (And.intro (And.intro (And.intro @al101 @al3) (And.intro @bs114_1 (And.intro @fa101_1 @fa101_3))) (And.intro (And.intro @fa26_0 (And.intro @fa26_1 @fa76_2)) (And.intro @fa91_0 (And.intro @fa91_1 @ia23)))) (And.intro (And.intro (And.intro @ia89 @ld22) (And.intro @ld23 (And.intro @ld26 @ld3))) (And.intro (And.intro @ld89 (And.intro @ld91 @ld99)) (And.intro @ln22 (And.intro @st101 @st3)))))
def tb90:=(And.intro @ia114 (And.intro @ld119 @ln114))
def tb91:=(And.intro (And.intro (And.intro (And.intro @al144 @al96) (And.intro @fa144_0 (And.intro @fa144_1 @fa144_2))) (And.intro (And.intro @fa144_3 @ia114) (And.intro @ia142 (And.intro @ia146 @ia94)))) (And.intro (And.intro (And.intro @ia96 @ld114) (And.intro @ld119 (And.intro @ld144 @ld145))) (And.intro (And.intro @ld3 (And.intro @ld96 @ln114)) (And.intro @ln142 (And.intro @st144 @st96)))))
def tb92:=(And.intro (And.intro @al96 (And.intro @ia94 @ia96)) (And.intro (And.intro @ld3 @ld96) (And.intro @st3 @st96)))
def tb93:=@bs146_0
def tb94:=@ln114
def tb100:=(And.intro (And.intro @al96 (And.intro @ia94 @ia96)) (And.intro @ld96 (And.intro @st3 @st96)))
def tb101:=(And.intro (And.intro @fa99_0 @ld4) (And.intro @ld96 (And.intro @st4 @st96)))
def tb102:=@ev_tmp
def tb104:=@ev_tmp
def tb105:=(And.intro (And.intro @al144 (And.intro @bd144_0_1_2_3 @fa101_1)) (And.intro (And.intro @fa101_2 @ld144) (And.intro @ld3 @st144)))
def tb106:=(And.intro @bs142_2 (And.intro @ld101 @ld3))
def tb110:=(And.intro (And.intro (And.intro @al30 @fa26_2) (And.intro @fa30_1 @ia24)) (And.intro (And.intro @ld24 @ld3) (And.intro @ld30 (And.intro @ln24 @st30))))
def tb111:=(And.intro @bs142_1 @ld144)
end Go.Proofs.Swa
set_option maxRecDepth 20000
set_option linter.unusedVariables false
set_option linter.unusedSimpArgs false
namespace Go.Proofs.Swa
open Go
open Nat renaming reduceAdd → nrA, reduceMul → nrM, reduceEqDiff → nrE, reduceLT → nrL
open Int renaming reduceToNat → irN
abbrev C5:CallRel:=Cl Try.prog (OrC Try.prog) 0
attribute [local congr] WO_congr oV_congr oB_congr oH_congr WD_congr oblO_congr oblA_congr oblR_congr
theorem f53 (a b c:Int) (H:AHeap):∃ v H',C5 (.fn 53) #[iv a,iv b,iv c] H v H'∧v=.bool (decide (b≤a∧a≤c))∧H'=H:=by
 refine Cl.ofW Try.func53 rfl (by kernel_rfl) (by rw [Try.ntmps53];exact Nat.le_of_ble_eq_true rfl) (by kernel_rfl) ?_
 have hEg:True:=trivial
 refine gcW [0,1,2] ?_
 intro eg hEn
 simp only [forallC,forallL,and_true] at hEn
 try simp only [↓pb,qbs,tb53,hEg,irN,nrA,nrM,nrE,reduceIte,reduceCtorEq,nrL] at hEn
 replace hEg:=hEn;clear hEn
 repeat' (first|((with_reducible refine hK _ _ fun e2 hEn=>?_);clear hK K;simp only [lv53,forallC,forallL,and_true] at hEn;(try simp only [↓pb,qbs,tb53,hEg,irN,nrA,nrM,nrE,reduceIte,reduceCtorEq,nrL] at hEn);clear hEg;(try clear eg);have hEg:=hEn;clear hEn;rename Env=>eg)|((first|((with_reducible first|apply oV_intro|apply oH_intro|apply oB_intro);(simp (disch:=first|exact dA|fail) only [qcs,tb53,hEg,irN,nrA,nrM,nrE,reduceIte,reduceCtorEq,nrL];with_reducible exact rfl))|(with_reducible first|refine W_regionF lv53 fun K hK=>?_));try simp only [↓pb,↓pd,qds,tb53,hEg,irN,nrA,nrM,nrE,reduceIte,reduceCtorEq,nrL])|(((with_reducible first|apply WO_gT|apply WO_gF);exact rfl);(simp only [↓pb,qbs,tb53,hEg,irN,nrA,nrM,nrE,reduceIte,reduceCtorEq,nrL];with_reducible exact rfl);all_goals (intro hc;(first|exact hcX hc|try simp only [hcs] at hc);try ((with_reducible apply woI);simp only [↓pb,↓pd,qds,tb53,hc,hEg,irN,nrA,nrM,nrE,reduceIte,reduceCtorEq,nrL])))|(with_reducible first|refine W_seq ?_|refine W_ret ?_)|fail)
 all_goals (
  refine ⟨by first|exact .inl rfl|exact .inr rfl, ?_⟩
  rw [ret1 Try.results53]
  simp only [↓pb,qbs,tb53,rv_tmp,rv_cell,hEg,irN,nrA,nrM,nrE,reduceIte,reduceCtorEq,nrL]
  repeat ((with_reducible apply oV_intro);(simp (disch:=first|exact dA|fail) only [qcs,tb53,hEg,irN,nrA,nrM,nrE,reduceIte,reduceCtorEq,nrL];exact rfl)))
 all_goals simp [*]
theorem f65 (a b:Int) (H:AHeap):∃ v H',C5 (.fn 65) #[iv a,iv b] H v H'∧v=iv (many a b)∧H'=H:=by
 refine Cl.ofW Try.func65 rfl (by kernel_rfl) (by rw [Try.ntmps65];exact Nat.le_of_ble_eq_true rfl) (by kernel_rfl) ?_
 have hEg:True:=trivial
 refine gcW [0,1] ?_
 intro eg hEn
 simp only [forallC,forallL,and_true] at hEn
 try simp only [↓pb,qbs,tb65,hEg,irN,nrA,nrM,nrE,reduceIte,reduceCtorEq,nrL] at hEn
 replace hEg:=hEn;clear hEn
 repeat' (first|((with_reducible refine hK _ _ fun e2 hEn=>?_);clear hK K;simp only [lv65,forallC,forallL,and_true] at hEn;(try simp only [↓pb,qbs,tb65,hEg,irN,nrA,nrM,nrE,reduceIte,reduceCtorEq,nrL] at hEn);clear hEg;(try clear eg);have hEg:=hEn;clear hEn;rename Env=>eg)|((first|((with_reducible first|apply oV_intro|apply oH_intro|apply oB_intro);(simp (disch:=first|exact dA|fail) only [qcs,tb65,hEg,irN,nrA,nrM,nrE,reduceIte,reduceCtorEq,nrL];with_reducible exact rfl))|(with_reducible first|refine W_regionF lv65 fun K hK=>?_));try simp only [↓pb,↓pd,qds,tb65,hEg,irN,nrA,nrM,nrE,reduceIte,reduceCtorEq,nrL])|((with_reducible apply W_cond);(simp only [↓pb,qbs,tb65,hEg,irN,nrA,nrM,nrE,reduceIte,reduceCtorEq,nrL];with_reducible exact rfl);all_goals (intro hc;(first|exact hcX hc|try simp only [hcs] at hc)))|(with_reducible first|refine W_seq ?_|refine W_block ?_|refine W_skip ?_|refine W_ret ?_|apply blockK_exit)|((with_reducible apply blockK_pass);(focus decide))|fail)
 all_goals (
  refine ⟨by first|exact .inl rfl|exact .inr rfl, ?_⟩
  rw [ret1 Try.results65]
  simp only [↓pb,qbs,tb65,rv_tmp,rv_cell,hEg,irN,nrA,nrM,nrE,reduceIte,reduceCtorEq,nrL]
  repeat ((with_reducible apply oV_intro);(simp (disch:=first|exact dA|fail) only [qcs,tb65,hEg,irN,nrA,nrM,nrE,reduceIte,reduceCtorEq,nrL];exact rfl)))
 all_goals simp [many, *]
theorem f66 (va vb vc:Value) (g:Gnd) (last:Int) (a:Act) (H:AHeap) (hT:Top H) (hG:RG H va vb vc g) :
  ∃ v H',C5 (.fn 66) #[.agg ⟨[va,vb,vc]⟩,iv last,.agg ⟨eAct a⟩] H v H'∧v=iv (checkAct g last a)∧Fr H.n [] H H':=by
 refine Cl.ofW Try.func66 rfl (by kernel_rfl) (by rw [Try.ntmps66];exact Nat.le_of_ble_eq_true rfl) (by kernel_rfl) ?_
 have hEg:True:=trivial
 refine gcW [0,1,2] ?_
 intro eg hEn
 simp only [forallC,forallL,and_true] at hEn
 try simp only [↓pb,qbs,tb66,hG.one,lns22 hG.p,lns23 hG.q,eAct,hEg,irN,nrA,nrM,nrE,reduceIte,reduceCtorEq,nrL] at hEn
 replace hEg:=hEn;clear hEn
 repeat' (first|((with_reducible refine hK _ _ fun e2 hEn=>?_);clear hK K;simp only [lv66,forallC,forallL,and_true] at hEn;(try simp only [↓pb,qbs,tb66,hG.one,lns22 hG.p,lns23 hG.q,eAct,hEg,irN,nrA,nrM,nrE,reduceIte,reduceCtorEq,nrL] at hEn);clear hEg;(try clear eg);have hEg:=hEn;clear hEn;rename Env=>eg)|((first|((with_reducible first|apply oV_intro|apply oH_intro|apply oB_intro);(simp (disch:=first|exact dA|fail) only [qcs,tb66,hG.one,lns22 hG.p,lns23 hG.q,eAct,hEg,irN,nrA,nrM,nrE,reduceIte,reduceCtorEq,nrL];with_reducible exact rfl))|((with_reducible apply WO_callE);(simp only [↓pb,qbs,tb66,hG.one,lns22 hG.p,lns23 hG.q,eAct,hEg,irN,nrA,nrM,nrE,reduceIte,reduceCtorEq,nrL];(exact f53 _ _ _ _)))|(with_reducible first|refine W_regionF lv66 fun K hK=>?_));try simp only [↓pb,↓pd,qds,tb66,hG.one,lns22 hG.p,lns23 hG.q,eAct,hEg,irN,nrA,nrM,nrE,reduceIte,reduceCtorEq,nrL])|((first|((with_reducible first|apply WO_gT|apply WO_gF);exact rfl)|(with_reducible apply W_cond));(simp only [↓pb,qbs,tb66,hG.one,lns22 hG.p,lns23 hG.q,eAct,hEg,irN,nrA,nrM,nrE,reduceIte,reduceCtorEq,nrL];with_reducible exact rfl);all_goals (intro hc;(first|exact hcX hc|try simp only [hcs] at hc);try ((with_reducible apply woI);simp only [↓pb,↓pd,qds,tb66,hG.one,lns22 hG.p,lns23 hG.q,eAct,hc,hEg,irN,nrA,nrM,nrE,reduceIte,reduceCtorEq,nrL])))|(with_reducible first|refine W_seq ?_|refine W_block ?_|refine W_skip ?_|refine W_ret ?_|apply blockK_exit)|((with_reducible apply blockK_pass);(focus decide))|fail)
 all_goals (
  refine ⟨by first|exact .inl rfl|exact .inr rfl, ?_⟩
  rw [ret1 Try.results66]
  simp only [↓pb,qbs,tb66,hG.one,lns22 hG.p,lns23 hG.q,eAct,rv_tmp,rv_cell,hEg,irN,nrA,nrM,nrE,reduceIte,reduceCtorEq,nrL]
  repeat ((with_reducible apply oV_intro);(simp (disch:=first|exact dA|fail) only [qcs,tb66,hG.one,lns22 hG.p,lns23 hG.q,eAct,hEg,irN,nrA,nrM,nrE,reduceIte,reduceCtorEq,nrL];exact rfl)))
 all_goals (
  refine ⟨by first|rfl|(simp [checkAct,inB,w64, *];done), ?_⟩
  try exact frA)
end Go.Proofs.Swa
set_option maxRecDepth 20000
set_option linter.unusedVariables false
set_option linter.unusedSimpArgs false
namespace Go.Proofs.Swa
open Go
open Nat renaming reduceAdd → nrA, reduceMul → nrM, reduceEqDiff → nrE, reduceLT → nrL
open Int renaming reduceToNat → irN
attribute [local congr] WO_congr oV_congr oB_congr oH_congr WD_congr oblO_congr oblA_congr oblR_congr
theorem all_stop {α:Type} {p:α→Bool} {x:α} {l:List α} {a b c:Int} (h:c=if (x :: l).all p then a else b) (hx:p x=false):c=b:=by rw [h,List.all_cons,hx];rfl
theorem all_go {α:Type} {p:α→Bool} {x:α} {l:List α} {a b c:Int} (h:c=if (x :: l).all p then a else b) (hx:p x=true):c=if l.all p then a else b:=by rw [h,List.all_cons,hx,Bool.true_and]
theorem all_end {α:Type} {p:α→Bool} {l:List α} {i:Nat} {a b c:Int} (h:c=if (l.drop i).all p then a else b) (hi:l.length≤i):c=a:=by rw [h,List.drop_of_length_le hi];rfl
theorem f25 (va vb vc:Value) (g:Gnd) (H:AHeap) (hT:Top H) (hG:RG H va vb vc g) (hl:g.Spots.length < 1099511627776) (hl2:g.Sorts.length < 1099511627776) :
  ∃ v H',C5 (.fn 25) #[.agg ⟨[va,vb,vc]⟩] H v H'∧v=iv (check g)∧Fr H.n [] H H':=by
 refine Cl.ofW Try.func25 rfl (by kernel_rfl) (by rw [Try.ntmps25];exact Nat.le_of_ble_eq_true rfl) (by kernel_rfl) ?_
 have hEg:True:=trivial
 refine gcW [0] ?_
 intro eg hEn
 simp only [forallC,forallL,and_true] at hEn
 try simp only [↓pb,qbs,tb25,hG.one,lns22 hG.p,lns23 hG.q,lns24 hG.r,hEg,irN,nrA,nrM,nrE,reduceIte,reduceCtorEq,nrL] at hEn
 replace hEg:=hEn;clear hEn
 repeat' (first|((with_reducible refine hK _ _ fun e2 hEn=>?_);clear hK K;simp only [lv25,forallC,forallL,and_true] at hEn;(try simp only [↓pb,qbs,tb25,hG.one,lns22 hG.p,lns23 hG.q,lns24 hG.r,hEg,irN,nrA,nrM,nrE,reduceIte,reduceCtorEq,nrL] at hEn);clear hEg;(try clear eg);have hEg:=hEn;clear hEn;rename Env=>eg)|((first|((with_reducible first|apply oV_intro|apply oH_intro|apply oB_intro);(simp (disch:=first|exact dA|fail) only [qcs,tb25,hG.one,lns22 hG.p,lns23 hG.q,lns24 hG.r,hEg,irN,nrA,nrM,nrE,reduceIte,reduceCtorEq,nrL];with_reducible exact rfl))|((with_reducible apply WO_callE);(simp only [↓pb,qbs,tb25,hG.one,lns22 hG.p,lns23 hG.q,lns24 hG.r,hEg,irN,nrA,nrM,nrE,reduceIte,reduceCtorEq,nrL];(first|exact f53 _ _ _ _|exact f65 _ _ _)))|((with_reducible apply WO_callV);(focus exact topA);(simp only [↓pb,qbs,tb25,hG.one,lns22 hG.p,lns23 hG.q,lns24 hG.r,hEg,irN,nrA,nrM,nrE,reduceIte,reduceCtorEq,nrL];(exact f66 _ _ _ _ _ _ _ (by exact topA) (hG.fr (N:=H.n) (by exact frA))));(intro Gq hq hJq;try simp only [upd_n,jn_n] at hq))|(with_reducible first|refine W_regionF lv25 fun K hK=>?_));try simp only [↓pb,↓pd,qds,tb25,hG.one,lns22 hG.p,lns23 hG.q,lns24 hG.r,hEg,irN,nrA,nrM,nrE,reduceIte,reduceCtorEq,nrL])|((first|((with_reducible first|apply WO_gT|apply WO_gF);exact rfl)|(with_reducible apply W_cond));(simp only [↓pb,qbs,tb25,hG.one,lns22 hG.p,lns23 hG.q,lns24 hG.r,hEg,irN,nrA,nrM,nrE,reduceIte,reduceCtorEq,nrL];with_reducible exact rfl);all_goals (intro hc;(first|exact hcX hc|try simp only [hcs] at hc);try ((with_reducible apply woI);simp only [↓pb,↓pd,qds,tb25,hG.one,lns22 hG.p,lns23 hG.q,lns24 hG.r,hc,hEg,irN,nrA,nrM,nrE,reduceIte,reduceCtorEq,nrL])))|(with_reducible first|refine W_seq ?_|refine W_block ?_|refine W_skip ?_|refine W_ret ?_|refine W_exit ?_|apply blockK_exit)|((with_reducible apply blockK_pass);(focus decide))|fail)
 ·refine ⟨by first|exact .inl rfl|exact .inr rfl, ?_⟩
  rw [ret1 Try.results25]
  simp only [↓pb,qbs,tb25,hG.one,lns22 hG.p,lns23 hG.q,lns24 hG.r,rv_tmp,rv_cell,hEg,irN,nrA,nrM,nrE,reduceIte,reduceCtorEq,nrL]
  repeat ((with_reducible apply oV_intro);(simp (disch:=first|exact dA|fail) only [qcs,tb25,hG.one,lns22 hG.p,lns23 hG.q,lns24 hG.r,hEg,irN,nrA,nrM,nrE,reduceIte,reduceCtorEq,nrL];exact rfl))
  refine ⟨by first|rfl|(simp [check, *];done), ?_⟩
  try exact frA
 have h1:check g=if (g.Spots.drop 0).all okSpo then check2 g else 1:=by
  rw [check,if_neg hc,List.drop_zero]
 refine W_count [1,21,22] (by kernel_rfl) 23 (g.Spots.length) (H.n) [] [] (fun i e h=>check g=if (g.Spots.drop i).all okSpo then check2 g else 1) (by simp only [↓pb,qbs,tb25,hG.one,lns22 hG.p,lns23 hG.q,lns24 hG.r,hEg,irN,nrA,nrM,nrE,reduceIte,reduceCtorEq,nrL]) (by focus exact topA) (H0:=H) (by focus exact frA) (by intro b hb hlt;simp at hb ⊢;try omega) ?_ ?_
 rotate_left
 intro i e h hi hE ei hF hF0 hTh hJ
 simp only [forallC,forallL,and_true] at hE
 try simp only [↓pb,qbs,tb25,hG.one,lns22 hG.p,lns23 hG.q,lns24 hG.r,hEg,irN,nrA,nrM,nrE,reduceIte,reduceCtorEq,nrL] at hE
 have hn1:=hF.n;have hn0:=hF0.n;try simp only [upd_n,jn_n] at hn1
 replace hEg:=And.intro ei hE
 rotate_left
 ·exact h1
 clear h1 hc
 have G:=hG.fr hF0
 by_cases hi2:i < g.Spots.length
 ·rw [drop_getD hi2] at hJ
  repeat' (first|((with_reducible refine hK _ _ fun e2 hEn=>?_);clear hK K;simp only [lv25,forallC,forallL,and_true] at hEn;(try simp only [↓pb,qbs,tb25,hG.one,lns22 hG.p,lns23 hG.q,lns24 hG.r,hEg,irN,nrA,nrM,nrE,reduceIte,reduceCtorEq,nrL] at hEn);clear hEg;(try clear eg);have hEg:=hEn;clear hEn;rename Env=>eg)|((first|((with_reducible first|apply oV_intro|apply oH_intro|apply oB_intro);(simp (disch:=first|exact dA|fail) only [qcs,tb25,hG.one,lns22 hG.p,lns23 hG.q,lns24 hG.r,hE,ei,G.one,lns22 G.p,lns23 G.q,lns24 G.r,ias22 G.p,(G.p.el eSpo_len rfl),G.p.rd,eSpo,hEg,irN,nrA,nrM,nrE,reduceIte,reduceCtorEq,nrL];with_reducible exact rfl))|((with_reducible apply WO_callE);(simp only [↓pb,qbs,tb25,hG.one,lns22 hG.p,lns23 hG.q,lns24 hG.r,hE,ei,G.one,lns22 G.p,lns23 G.q,lns24 G.r,ias22 G.p,(G.p.el eSpo_len rfl),G.p.rd,eSpo,hEg,irN,nrA,nrM,nrE,reduceIte,reduceCtorEq,nrL];(first|exact f53 _ _ _ _|exact f65 _ _ _)))|((with_reducible apply WO_callV);(focus exact topA);(simp only [↓pb,qbs,tb25,hG.one,lns22 hG.p,lns23 hG.q,lns24 hG.r,hE,ei,G.one,lns22 G.p,lns23 G.q,lns24 G.r,ias22 G.p,(G.p.el eSpo_len rfl),G.p.rd,eSpo,hEg,irN,nrA,nrM,nrE,reduceIte,reduceCtorEq,nrL];(exact f66 _ _ _ _ _ _ _ (by exact topA) (hG.fr (N:=H.n) (by exact frA))));(intro Gq hq hJq;try simp only [upd_n,jn_n] at hq))|(with_reducible first|refine W_regionF lv25 fun K hK=>?_));try simp only [↓pb,↓pd,qds,tb25,hG.one,lns22 hG.p,lns23 hG.q,lns24 hG.r,hE,ei,G.one,lns22 G.p,lns23 G.q,lns24 G.r,ias22 G.p,(G.p.el eSpo_len rfl),G.p.rd,eSpo,hEg,irN,nrA,nrM,nrE,reduceIte,reduceCtorEq,nrL])|((first|((with_reducible first|apply WO_gT|apply WO_gF);exact rfl)|(with_reducible apply W_cond));(simp only [↓pb,qbs,tb25,hG.one,lns22 hG.p,lns23 hG.q,lns24 hG.r,hE,ei,G.one,lns22 G.p,lns23 G.q,lns24 G.r,ias22 G.p,(G.p.el eSpo_len rfl),G.p.rd,eSpo,hEg,irN,nrA,nrM,nrE,reduceIte,reduceCtorEq,nrL];with_reducible exact rfl);all_goals (intro hc;(first|exact hcX hc|try simp only [hcs] at hc);try ((with_reducible apply woI);simp only [↓pb,↓pd,qds,tb25,hG.one,lns22 hG.p,lns23 hG.q,lns24 hG.r,hE,ei,G.one,lns22 G.p,lns23 G.q,lns24 G.r,ias22 G.p,(G.p.el eSpo_len rfl),G.p.rd,eSpo,hc,hEg,irN,nrA,nrM,nrE,reduceIte,reduceCtorEq,nrL])))|(with_reducible first|refine W_seq ?_|refine W_block ?_|refine W_skip ?_|refine W_ret ?_|refine W_exit ?_|apply blockK_exit)|((with_reducible apply blockK_pass);(focus decide))|fail)
  all_goals first|omega|skip
  all_goals first
   | (have hb:okSpo (g.Spots.getD i default)=false:=by clear hJ;generalize g.Spots.getD i default=x at *;simp [okSpo,inB, *]
      refine ⟨by first|exact .inl rfl|exact .inr rfl, ?_⟩
      rw [ret1 Try.results25]
      simp only [↓pb,qbs,tb25,hG.one,lns22 hG.p,lns23 hG.q,lns24 hG.r,rv_tmp,rv_cell,hEg,irN,nrA,nrM,nrE,reduceIte,reduceCtorEq,nrL]
      repeat ((with_reducible apply oV_intro);(simp (disch:=first|exact dA|fail) only [qcs,tb25,hG.one,lns22 hG.p,lns23 hG.q,lns24 hG.r,hEg,irN,nrA,nrM,nrE,reduceIte,reduceCtorEq,nrL];exact rfl))
      rw [all_stop hJ hb]
      refine ⟨by first|rfl|(simp [*];done), ?_⟩
      try exact frA)
   | (have hb:okSpo (g.Spots.getD i default)=true:=by clear hJ;generalize g.Spots.getD i default=x at *;simp [okSpo,inB, *]
      refine ⟨by omega,by simp only [↓pb,qbs,tb25,hG.one,lns22 hG.p,lns23 hG.q,lns24 hG.r,hEg,irN,nrA,nrM,nrE,reduceIte,reduceCtorEq,nrL];exact congrArg _ (inc64 (by omega)),by focus exact frA, ?_⟩
      exact all_go hJ hb)
 have h2:=all_end hJ (by omega)
 have hb1:h.get H.n=.cells [va,vb,vc] 26 .ex:=by rw [hF.old H.n (by simp only [upd_n];omega) (by simp),upd_get_same]
 have hb2:h.rd H.n=some [va,vb,vc]:=by rw [rd_def,hb1];rfl
 clear hJ hF
 repeat' (first|((with_reducible refine hK _ _ fun e2 hEn=>?_);clear hK K;simp only [lv25,forallC,forallL,and_true] at hEn;(try simp only [↓pb,qbs,tb25,hG.one,lns22 hG.p,lns23 hG.q,lns24 hG.r,hEg,irN,nrA,nrM,nrE,reduceIte,reduceCtorEq,nrL] at hEn);clear hEg;(try clear eg);have hEg:=hEn;clear hEn;rename Env=>eg)|((first|((with_reducible first|apply oV_intro|apply oH_intro|apply oB_intro);(simp (disch:=first|exact dA|fail) only [qcs,tb25,hG.one,lns22 hG.p,lns23 hG.q,lns24 hG.r,hE,ei,hb2,G.one,lns22 G.p,lns23 G.q,lns24 G.r,hEg,irN,nrA,nrM,nrE,reduceIte,reduceCtorEq,nrL];with_reducible exact rfl))|((with_reducible apply WO_callE);(simp only [↓pb,qbs,tb25,hG.one,lns22 hG.p,lns23 hG.q,lns24 hG.r,hE,ei,hb2,G.one,lns22 G.p,lns23 G.q,lns24 G.r,hEg,irN,nrA,nrM,nrE,reduceIte,reduceCtorEq,nrL];(first|exact f53 _ _ _ _|exact f65 _ _ _)))|((with_reducible apply WO_callV);(focus exact topA);(simp only [↓pb,qbs,tb25,hG.one,lns22 hG.p,lns23 hG.q,lns24 hG.r,hE,ei,hb2,G.one,lns22 G.p,lns23 G.q,lns24 G.r,hEg,irN,nrA,nrM,nrE,reduceIte,reduceCtorEq,nrL];(exact f66 _ _ _ _ _ _ _ (by exact topA) (hG.fr (N:=H.n) (by exact frA))));(intro Gq hq hJq;try simp only [upd_n,jn_n] at hq))|(with_reducible first|refine W_regionF lv25 fun K hK=>?_));try simp only [↓pb,↓pd,qds,tb25,hG.one,lns22 hG.p,lns23 hG.q,lns24 hG.r,hE,ei,hb2,G.one,lns22 G.p,lns23 G.q,lns24 G.r,hEg,irN,nrA,nrM,nrE,reduceIte,reduceCtorEq,nrL])|((first|((with_reducible first|apply WO_gT|apply WO_gF);exact rfl)|(with_reducible apply W_cond));(simp only [↓pb,qbs,tb25,hG.one,lns22 hG.p,lns23 hG.q,lns24 hG.r,hE,ei,hb2,G.one,lns22 G.p,lns23 G.q,lns24 G.r,hEg,irN,nrA,nrM,nrE,reduceIte,reduceCtorEq,nrL];with_reducible exact rfl);all_goals (intro hc;(first|exact hcX hc|try simp only [hcs] at hc);try ((with_reducible apply woI);simp only [↓pb,↓pd,qds,tb25,hG.one,lns22 hG.p,lns23 hG.q,lns24 hG.r,hE,ei,hb2,G.one,lns22 G.p,lns23 G.q,lns24 G.r,hc,hEg,irN,nrA,nrM,nrE,reduceIte,reduceCtorEq,nrL])))|(with_reducible first|refine W_seq ?_|refine W_block ?_|refine W_skip ?_|refine W_ret ?_|refine W_exit ?_|apply blockK_exit)|((with_reducible apply blockK_pass);(focus decide))|fail)
 ·refine ⟨by first|exact .inl rfl|exact .inr rfl, ?_⟩
  rw [ret1 Try.results25]
  simp only [↓pb,qbs,tb25,hG.one,lns22 hG.p,lns23 hG.q,lns24 hG.r,rv_tmp,rv_cell,hEg,irN,nrA,nrM,nrE,reduceIte,reduceCtorEq,nrL]
  repeat ((with_reducible apply oV_intro);(simp (disch:=first|exact dA|fail) only [qcs,tb25,hG.one,lns22 hG.p,lns23 hG.q,lns24 hG.r,hEg,irN,nrA,nrM,nrE,reduceIte,reduceCtorEq,nrL];exact rfl))
  rw [h2]
  refine ⟨by first|rfl|(simp [check2, *];done), ?_⟩
  try exact frA
 have h3:check g=if (g.Sorts.drop 0).all okSrt then check3 g else 1:=by
  rw [h2,check2,if_neg hc,List.drop_zero]
 clear hc hi2 h2
 have hEa:=hE;have hbp:=hb1
 refine W_count [1,52,53] (by kernel_rfl) 54 (g.Sorts.length) (H.n) [] [] (fun i e h=>check g=if (g.Sorts.drop i).all okSrt then check3 g else 1) (by simp only [↓pb,qbs,tb25,hG.one,lns22 hG.p,lns23 hG.q,lns24 hG.r,hEa,hEg,irN,nrA,nrM,nrE,reduceIte,reduceCtorEq,nrL]) (by focus exact topA) (H0:=H) (by focus exact frA) (by intro b hb hlt;simp at hb ⊢;try omega) ?_ ?_
 rotate_left
 intro i e h hi hE ei hF hF0 hTh hJ
 simp only [forallC,forallL,and_true] at hE
 try simp only [↓pb,qbs,tb25,hG.one,lns22 hG.p,lns23 hG.q,lns24 hG.r,hEa,hEg,irN,nrA,nrM,nrE,reduceIte,reduceCtorEq,nrL] at hE
 have hn1:=hF.n;have hn0:=hF0.n;try simp only [upd_n,jn_n] at hn1
 replace hEg:=And.intro ei hE
 rotate_left
 ·exact h3
 clear h3 hb1 hb2 G
 have G:=hG.fr hF0
 have hb1:=(hF.old H.n (by omega) (by simp)).trans hbp
 have hb2:h.rd H.n=some [va,vb,vc]:=by rw [rd_def,hb1];rfl
 by_cases hi2:i < g.Sorts.length
 ·rw [drop_getD hi2] at hJ
  repeat' (first|((with_reducible refine hK _ _ fun e2 hEn=>?_);clear hK K;simp only [lv25,forallC,forallL,and_true] at hEn;(try simp only [↓pb,qbs,tb25,hG.one,lns22 hG.p,lns23 hG.q,lns24 hG.r,hEg,irN,nrA,nrM,nrE,reduceIte,reduceCtorEq,nrL] at hEn);clear hEg;(try clear eg);have hEg:=hEn;clear hEn;rename Env=>eg)|((first|((with_reducible first|apply oV_intro|apply oH_intro|apply oB_intro);(simp (disch:=first|exact dA|fail) only [qcs,tb25,hG.one,lns22 hG.p,lns23 hG.q,lns24 hG.r,hE,ei,G.one,lns22 G.p,lns23 G.q,lns24 G.r,ias23 G.q,(G.q.el eSrt_len rfl),G.q.rd,eSrt,hEg,irN,nrA,nrM,nrE,reduceIte,reduceCtorEq,nrL];with_reducible exact rfl))|((with_reducible apply WO_callE);(simp only [↓pb,qbs,tb25,hG.one,lns22 hG.p,lns23 hG.q,lns24 hG.r,hE,ei,G.one,lns22 G.p,lns23 G.q,lns24 G.r,ias23 G.q,(G.q.el eSrt_len rfl),G.q.rd,eSrt,hEg,irN,nrA,nrM,nrE,reduceIte,reduceCtorEq,nrL];(first|exact f53 _ _ _ _|exact f65 _ _ _)))|((with_reducible apply WO_callV);(focus exact topA);(simp only [↓pb,qbs,tb25,hG.one,lns22 hG.p,lns23 hG.q,lns24 hG.r,hE,ei,G.one,lns22 G.p,lns23 G.q,lns24 G.r,ias23 G.q,(G.q.el eSrt_len rfl),G.q.rd,eSrt,hEg,irN,nrA,nrM,nrE,reduceIte,reduceCtorEq,nrL];(exact f66 _ _ _ _ _ _ _ (by exact topA) (hG.fr (N:=H.n) (by exact frA))));(intro Gq hq hJq;try simp only [upd_n,jn_n] at hq))|(with_reducible first|refine W_regionF lv25 fun K hK=>?_));try simp only [↓pb,↓pd,qds,tb25,hG.one,lns22 hG.p,lns23 hG.q,lns24 hG.r,hE,ei,G.one,lns22 G.p,lns23 G.q,lns24 G.r,ias23 G.q,(G.q.el eSrt_len rfl),G.q.rd,eSrt,hEg,irN,nrA,nrM,nrE,reduceIte,reduceCtorEq,nrL])|((first|((with_reducible first|apply WO_gT|apply WO_gF);exact rfl)|(with_reducible apply W_cond));(simp only [↓pb,qbs,tb25,hG.one,lns22 hG.p,lns23 hG.q,lns24 hG.r,hE,ei,G.one,lns22 G.p,lns23 G.q,lns24 G.r,ias23 G.q,(G.q.el eSrt_len rfl),G.q.rd,eSrt,hEg,irN,nrA,nrM,nrE,reduceIte,reduceCtorEq,nrL];with_reducible exact rfl);all_goals (intro hc;(first|exact hcX hc|try simp only [hcs] at hc);try ((with_reducible apply woI);simp only [↓pb,↓pd,qds,tb25,hG.one,lns22 hG.p,lns23 hG.q,lns24 hG.r,hE,ei,G.one,lns22 G.p,lns23 G.q,lns24 G.r,ias23 G.q,(G.q.el eSrt_len rfl),G.q.rd,eSrt,hc,hEg,irN,nrA,nrM,nrE,reduceIte,reduceCtorEq,nrL])))|(with_reducible first|refine W_seq ?_|refine W_block ?_|refine W_skip ?_|refine W_ret ?_|refine W_exit ?_|apply blockK_exit)|((with_reducible apply blockK_pass);(focus decide))|fail)
  all_goals first
   | (have hb:okSrt (g.Sorts.getD i default)=false:=by clear hJ;generalize g.Sorts.getD i default=x at *;simp [okSrt,inB, *]
      refine ⟨by first|exact .inl rfl|exact .inr rfl, ?_⟩
      rw [ret1 Try.results25]
      simp only [↓pb,qbs,tb25,hG.one,lns22 hG.p,lns23 hG.q,lns24 hG.r,rv_tmp,rv_cell,hEg,irN,nrA,nrM,nrE,reduceIte,reduceCtorEq,nrL]
      repeat ((with_reducible apply oV_intro);(simp (disch:=first|exact dA|fail) only [qcs,tb25,hG.one,lns22 hG.p,lns23 hG.q,lns24 hG.r,hEg,irN,nrA,nrM,nrE,reduceIte,reduceCtorEq,nrL];exact rfl))
      rw [all_stop hJ hb]
      refine ⟨by first|rfl|(simp [*];done), ?_⟩
      try exact frA)
   | (have hb:okSrt (g.Sorts.getD i default)=true:=by clear hJ;generalize g.Sorts.getD i default=x at *;simp [okSrt,inB, *]
      refine ⟨by omega,by simp only [↓pb,qbs,tb25,hG.one,lns22 hG.p,lns23 hG.q,lns24 hG.r,hEg,irN,nrA,nrM,nrE,reduceIte,reduceCtorEq,nrL];exact congrArg _ (inc64 (by omega)),by focus exact frA, ?_⟩
      exact all_go hJ hb)
 have h2:=all_end hJ (by omega)
 clear hJ hF
 repeat' (first|((with_reducible refine hK _ _ fun e2 hEn=>?_);clear hK K;simp only [lv25,forallC,forallL,and_true] at hEn;(try simp only [↓pb,qbs,tb25,hG.one,lns22 hG.p,lns23 hG.q,lns24 hG.r,hEg,irN,nrA,nrM,nrE,reduceIte,reduceCtorEq,nrL] at hEn);clear hEg;(try clear eg);have hEg:=hEn;clear hEn;rename Env=>eg)|((first|((with_reducible first|apply oV_intro|apply oH_intro|apply oB_intro);(simp (disch:=first|exact dA|fail) only [qcs,tb25,hG.one,lns22 hG.p,lns23 hG.q,lns24 hG.r,hE,ei,hb2,G.one,lns22 G.p,lns23 G.q,lns24 G.r,hEg,irN,nrA,nrM,nrE,reduceIte,reduceCtorEq,nrL];with_reducible exact rfl))|((with_reducible apply WO_callE);(simp only [↓pb,qbs,tb25,hG.one,lns22 hG.p,lns23 hG.q,lns24 hG.r,hE,ei,hb2,G.one,lns22 G.p,lns23 G.q,lns24 G.r,hEg,irN,nrA,nrM,nrE,reduceIte,reduceCtorEq,nrL];(first|exact f53 _ _ _ _|exact f65 _ _ _)))|((with_reducible apply WO_callV);(focus exact topA);(simp only [↓pb,qbs,tb25,hG.one,lns22 hG.p,lns23 hG.q,lns24 hG.r,hE,ei,hb2,G.one,lns22 G.p,lns23 G.q,lns24 G.r,hEg,irN,nrA,nrM,nrE,reduceIte,reduceCtorEq,nrL];(exact f66 _ _ _ _ _ _ _ (by exact topA) (hG.fr (N:=H.n) (by exact frA))));(intro Gq hq hJq;try simp only [upd_n,jn_n] at hq))|(with_reducible first|refine W_regionF lv25 fun K hK=>?_));try simp only [↓pb,↓pd,qds,tb25,hG.one,lns22 hG.p,lns23 hG.q,lns24 hG.r,hE,ei,hb2,G.one,lns22 G.p,lns23 G.q,lns24 G.r,hEg,irN,nrA,nrM,nrE,reduceIte,reduceCtorEq,nrL])|((first|((with_reducible first|apply WO_gT|apply WO_gF);exact rfl)|(with_reducible apply W_cond));(simp only [↓pb,qbs,tb25,hG.one,lns22 hG.p,lns23 hG.q,lns24 hG.r,hE,ei,hb2,G.one,lns22 G.p,lns23 G.q,lns24 G.r,hEg,irN,nrA,nrM,nrE,reduceIte,reduceCtorEq,nrL];with_reducible exact rfl);all_goals (intro hc;(first|exact hcX hc|try simp only [hcs] at hc);try ((with_reducible apply woI);simp only [↓pb,↓pd,qds,tb25,hG.one,lns22 hG.p,lns23 hG.q,lns24 hG.r,hE,ei,hb2,G.one,lns22 G.p,lns23 G.q,lns24 G.r,hc,hEg,irN,nrA,nrM,nrE,reduceIte,reduceCtorEq,nrL])))|(with_reducible first|refine W_seq ?_|refine W_block ?_|refine W_skip ?_|refine W_ret ?_|refine W_exit ?_|apply blockK_exit)|((with_reducible apply blockK_pass);(focus decide))|fail)
 ·refine ⟨by first|exact .inl rfl|exact .inr rfl, ?_⟩
  rw [ret1 Try.results25]
  simp only [↓pb,qbs,tb25,hG.one,lns22 hG.p,lns23 hG.q,lns24 hG.r,rv_tmp,rv_cell,hEg,irN,nrA,nrM,nrE,reduceIte,reduceCtorEq,nrL]
  repeat ((with_reducible apply oV_intro);(simp (disch:=first|exact dA|fail) only [qcs,tb25,hG.one,lns22 hG.p,lns23 hG.q,lns24 hG.r,hEg,irN,nrA,nrM,nrE,reduceIte,reduceCtorEq,nrL];exact rfl))
  rw [h2,check3,if_pos (by omega)]
  refine ⟨by first|rfl|(simp [*];done), ?_⟩
  try exact frA
 have h3:check g=checkActs g 0 (g.Acts.drop 0):=by
  rw [h2,check3,if_neg (by omega),List.drop_zero]
 clear hi2 h2
 have hEb:=hE;have hbp:=hb1
 refine W_count [1,86,87] (by kernel_rfl) 88 (g.Acts.length) (H.n) [] [] (fun i e h=>∃ last,e 9=iv last∧check g=checkActs g last (g.Acts.drop i)) (by simp only [↓pb,qbs,tb25,hG.one,lns22 hG.p,lns23 hG.q,lns24 hG.r,hEb,hEg,irN,nrA,nrM,nrE,reduceIte,reduceCtorEq,nrL]) (by focus exact topA) (H0:=H) (by focus exact frA) (by intro b hb hlt;simp at hb ⊢;try omega) ?_ ?_
 rotate_left
 intro i e h hi hE ei hF hF0 hTh hJ
 simp only [forallC,forallL,and_true] at hE
 try simp only [↓pb,qbs,tb25,hG.one,lns22 hG.p,lns23 hG.q,lns24 hG.r,hEb,hEg,irN,nrA,nrM,nrE,reduceIte,reduceCtorEq,nrL] at hE
 have hn1:=hF.n;have hn0:=hF0.n;try simp only [upd_n,jn_n] at hn1
 replace hEg:=And.intro ei hE
 rotate_left
 ·exact ⟨0,by simp only [↓pb,qbs,tb25,hG.one,lns22 hG.p,lns23 hG.q,lns24 hG.r,hEg,irN,nrA,nrM,nrE,reduceIte,reduceCtorEq,nrL],h3⟩
 obtain ⟨last,e9,hJ⟩:=hJ
 clear h3 hb1 hb2 G
 have G:=hG.fr hF0
 have hb1:=(hF.old H.n (by omega) (by simp)).trans hbp
 have hb2:h.rd H.n=some [va,vb,vc]:=by rw [rd_def,hb1];rfl
 by_cases hi2:i < g.Acts.length
 ·rw [drop_getD hi2] at hJ
  repeat' (first|((with_reducible refine hK _ _ fun e2 hEn=>?_);clear hK K;simp only [lv25,forallC,forallL,and_true] at hEn;(try simp only [↓pb,qbs,tb25,hG.one,lns22 hG.p,lns23 hG.q,lns24 hG.r,hEg,irN,nrA,nrM,nrE,reduceIte,reduceCtorEq,nrL] at hEn);clear hEg;(try clear eg);have hEg:=hEn;clear hEn;rename Env=>eg)|((first|((with_reducible first|apply oV_intro|apply oH_intro|apply oB_intro);(simp (disch:=first|exact dA|fail) only [qcs,tb25,hG.one,lns22 hG.p,lns23 hG.q,lns24 hG.r,hE,ei,e9,hb2,G.one,lns22 G.p,lns23 G.q,lns24 G.r,ias24 G.r,(G.r.el eAct_len rfl),G.r.rd,eAct,hEg,irN,nrA,nrM,nrE,reduceIte,reduceCtorEq,nrL];with_reducible exact rfl))|((with_reducible apply WO_callE);(simp only [↓pb,qbs,tb25,hG.one,lns22 hG.p,lns23 hG.q,lns24 hG.r,hE,ei,e9,hb2,G.one,lns22 G.p,lns23 G.q,lns24 G.r,ias24 G.r,(G.r.el eAct_len rfl),G.r.rd,eAct,hEg,irN,nrA,nrM,nrE,reduceIte,reduceCtorEq,nrL];(first|exact f53 _ _ _ _|exact f65 _ _ _)))|((with_reducible apply WO_callV);(focus exact topA);(simp only [↓pb,qbs,tb25,hG.one,lns22 hG.p,lns23 hG.q,lns24 hG.r,hE,ei,e9,hb2,G.one,lns22 G.p,lns23 G.q,lns24 G.r,ias24 G.r,(G.r.el eAct_len rfl),G.r.rd,eAct,hEg,irN,nrA,nrM,nrE,reduceIte,reduceCtorEq,nrL];(exact f66 _ _ _ _ _ _ _ (by exact topA) (hG.fr (N:=H.n) (by exact frA))));(intro Gq hq hJq;try simp only [upd_n,jn_n] at hq))|(with_reducible first|refine W_regionF lv25 fun K hK=>?_));try simp only [↓pb,↓pd,qds,tb25,hG.one,lns22 hG.p,lns23 hG.q,lns24 hG.r,hE,ei,e9,hb2,G.one,lns22 G.p,lns23 G.q,lns24 G.r,ias24 G.r,(G.r.el eAct_len rfl),G.r.rd,eAct,hEg,irN,nrA,nrM,nrE,reduceIte,reduceCtorEq,nrL])|((first|((with_reducible first|apply WO_gT|apply WO_gF);exact rfl)|(with_reducible apply W_cond));(simp only [↓pb,qbs,tb25,hG.one,lns22 hG.p,lns23 hG.q,lns24 hG.r,hE,ei,e9,hb2,G.one,lns22 G.p,lns23 G.q,lns24 G.r,ias24 G.r,(G.r.el eAct_len rfl),G.r.rd,eAct,hEg,irN,nrA,nrM,nrE,reduceIte,reduceCtorEq,nrL];with_reducible exact rfl);all_goals (intro hc;(first|exact hcX hc|try simp only [hcs] at hc);try ((with_reducible apply woI);simp only [↓pb,↓pd,qds,tb25,hG.one,lns22 hG.p,lns23 hG.q,lns24 hG.r,hE,ei,e9,hb2,G.one,lns22 G.p,lns23 G.q,lns24 G.r,ias24 G.r,(G.r.el eAct_len rfl),G.r.rd,eAct,hc,hEg,irN,nrA,nrM,nrE,reduceIte,reduceCtorEq,nrL])))|(with_reducible first|refine W_seq ?_|refine W_block ?_|refine W_skip ?_|refine W_ret ?_|refine W_exit ?_|apply blockK_exit)|((with_reducible apply blockK_pass);(focus decide))|fail)
  ·refine ⟨by first|exact .inl rfl|exact .inr rfl, ?_⟩
   rw [ret1 Try.results25]
   simp only [↓pb,qbs,tb25,hG.one,lns22 hG.p,lns23 hG.q,lns24 hG.r,rv_tmp,rv_cell,hEg,irN,nrA,nrM,nrE,reduceIte,reduceCtorEq,nrL]
   repeat ((with_reducible apply oV_intro);(simp (disch:=first|exact dA|fail) only [qcs,tb25,hG.one,lns22 hG.p,lns23 hG.q,lns24 hG.r,hEg,irN,nrA,nrM,nrE,reduceIte,reduceCtorEq,nrL];exact rfl))
   rw [hJ,checkActs,if_pos hc]
   refine ⟨by first|rfl|(simp [*];done), ?_⟩
   try exact frA
  ·refine ⟨by omega,by simp only [↓pb,qbs,tb25,hG.one,lns22 hG.p,lns23 hG.q,lns24 hG.r,e9,hEg,irN,nrA,nrM,nrE,reduceIte,reduceCtorEq,nrL];exact congrArg _ (inc64 (by omega)),by focus exact frA, ?_⟩
   refine ⟨_,by simp only [↓pb,qbs,tb25,hG.one,lns22 hG.p,lns23 hG.q,lns24 hG.r,hEg,irN,nrA,nrM,nrE,reduceIte,reduceCtorEq,nrL];exact rfl, ?_⟩
   rw [hJ,checkActs,if_neg hc]
 ·rw [List.drop_of_length_le (by omega)] at hJ
  repeat' (first|((with_reducible refine hK _ _ fun e2 hEn=>?_);clear hK K;simp only [lv25,forallC,forallL,and_true] at hEn;(try simp only [↓pb,qbs,tb25,hG.one,lns22 hG.p,lns23 hG.q,lns24 hG.r,hEg,irN,nrA,nrM,nrE,reduceIte,reduceCtorEq,nrL] at hEn);clear hEg;(try clear eg);have hEg:=hEn;clear hEn;rename Env=>eg)|((first|((with_reducible first|apply oV_intro|apply oH_intro|apply oB_intro);(simp (disch:=first|exact dA|fail) only [qcs,tb25,hG.one,lns22 hG.p,lns23 hG.q,lns24 hG.r,hE,ei,e9,hEg,irN,nrA,nrM,nrE,reduceIte,reduceCtorEq,nrL];with_reducible exact rfl))|((with_reducible apply WO_callE);(simp only [↓pb,qbs,tb25,hG.one,lns22 hG.p,lns23 hG.q,lns24 hG.r,hE,ei,e9,hEg,irN,nrA,nrM,nrE,reduceIte,reduceCtorEq,nrL];(first|exact f53 _ _ _ _|exact f65 _ _ _)))|((with_reducible apply WO_callV);(focus exact topA);(simp only [↓pb,qbs,tb25,hG.one,lns22 hG.p,lns23 hG.q,lns24 hG.r,hE,ei,e9,hEg,irN,nrA,nrM,nrE,reduceIte,reduceCtorEq,nrL];(exact f66 _ _ _ _ _ _ _ (by exact topA) (hG.fr (N:=H.n) (by exact frA))));(intro Gq hq hJq;try simp only [upd_n,jn_n] at hq))|(with_reducible first|refine W_regionF lv25 fun K hK=>?_));try simp only [↓pb,↓pd,qds,tb25,hG.one,lns22 hG.p,lns23 hG.q,lns24 hG.r,hE,ei,e9,hEg,irN,nrA,nrM,nrE,reduceIte,reduceCtorEq,nrL])|((first|((with_reducible first|apply WO_gT|apply WO_gF);exact rfl)|(with_reducible apply W_cond));(simp only [↓pb,qbs,tb25,hG.one,lns22 hG.p,lns23 hG.q,lns24 hG.r,hE,ei,e9,hEg,irN,nrA,nrM,nrE,reduceIte,reduceCtorEq,nrL];with_reducible exact rfl);all_goals (intro hc;(first|exact hcX hc|try simp only [hcs] at hc);try ((with_reducible apply woI);simp only [↓pb,↓pd,qds,tb25,hG.one,lns22 hG.p,lns23 hG.q,lns24 hG.r,hE,ei,e9,hc,hEg,irN,nrA,nrM,nrE,reduceIte,reduceCtorEq,nrL])))|(with_reducible first|refine W_seq ?_|refine W_block ?_|refine W_skip ?_|refine W_ret ?_|refine W_exit ?_|apply blockK_exit)|((with_reducible apply blockK_pass);(focus decide))|fail)
  refine ⟨by first|exact .inl rfl|exact .inr rfl, ?_⟩
  rw [ret1 Try.results25]
  simp only [↓pb,qbs,tb25,hG.one,lns22 hG.p,lns23 hG.q,lns24 hG.r,rv_tmp,rv_cell,hEg,irN,nrA,nrM,nrE,reduceIte,reduceCtorEq,nrL]
  repeat ((with_reducible apply oV_intro);(simp (disch:=first|exact dA|fail) only [qcs,tb25,hG.one,lns22 hG.p,lns23 hG.q,lns24 hG.r,hEg,irN,nrA,nrM,nrE,reduceIte,reduceCtorEq,nrL];exact rfl))
  rw [hJ]
  refine ⟨by first|rfl|(simp [checkActs, *];done), ?_⟩
  try exact frA
theorem f92 (s:List Int) (hs:s.length=121) (a b:Nat) (ha:a < 11) (hb:b < 11) (m:Int) (H:AHeap) (hT:Top H) :
  ∃ v H',C5 (.fn 92) #[.agg ⟨ints s⟩,iv a,iv b,iv m] H v H'∧v=.tuple #[.agg ⟨ints (know s a b m).1⟩,.bool (know s a b m).2]∧Fr H.n [] H H':=by
 have hl:(ints s).length=121:=by rw [ints_len,hs]
 have hz:=zs_len 121
 refine Cl.ofW Try.func92 rfl (by kernel_rfl) (by rw [Try.ntmps92];exact Nat.le_of_ble_eq_true rfl) (by kernel_rfl) ?_
 have hEg:True:=trivial
 refine gcW [0,1,2,3] ?_
 intro eg hEn
 simp only [forallC,forallL,and_true] at hEn
 try simp only [↓pb,qbs,tb92,ints_at,Nat.mul_one,hEg,irN,nrA,nrM,nrE,reduceIte,reduceCtorEq,nrL] at hEn
 replace hEg:=hEn;clear hEn
 repeat' (first|((with_reducible refine hK _ _ fun e2 hEn=>?_);clear hK K;simp only [lv92,forallC,forallL,and_true] at hEn;(try simp only [↓pb,qbs,tb92,ints_at,Nat.mul_one,hEg,irN,nrA,nrM,nrE,reduceIte,reduceCtorEq,nrL] at hEn);clear hEg;(try clear eg);have hEg:=hEn;clear hEn;rename Env=>eg)|((first|((with_reducible first|apply oV_intro|apply oH_intro|apply oB_intro);(simp (disch:=first|exact dA|fail) only [qcs,tb92,ints_at,Nat.mul_one,hEg,irN,nrA,nrM,nrE,reduceIte,reduceCtorEq,nrL];with_reducible exact rfl))|((with_reducible first|apply oblA_and|apply oblR_and|apply oblO_and);(focus exact obA))|(with_reducible first|refine W_regionF lv92 fun K hK=>?_|refine W_drawnF lv92 fun K hK=>?_));try simp only [↓pb,↓pd,qds,tb92,ints_at,Nat.mul_one,hEg,irN,nrA,nrM,nrE,reduceIte,reduceCtorEq,nrL])|((first|((with_reducible first|apply WO_gT|apply WO_gF|apply WD_gT|apply WD_gF);exact rfl)|(with_reducible apply W_cond));(simp only [↓pb,qbs,tb92,ints_at,Nat.mul_one,hEg,irN,nrA,nrM,nrE,reduceIte,reduceCtorEq,nrL];with_reducible exact rfl);all_goals (intro hc;(first|exact hcX hc|try simp only [hcs] at hc);try ((with_reducible first|apply woI|apply wdI);simp only [↓pb,↓pd,qds,tb92,ints_at,Nat.mul_one,hc,hEg,irN,nrA,nrM,nrE,reduceIte,reduceCtorEq,nrL])))|(with_reducible first|refine W_seq ?_|refine W_block ?_|refine W_skip ?_|refine W_ret ?_|refine W_exit ?_|apply blockK_exit)|((with_reducible apply blockK_pass);(focus decide))|fail)
 ·refine ⟨by first|exact .inl rfl|exact .inr rfl, ?_⟩
  rw [ret2 Try.results92]
  simp only [↓pb,qbs,tb92,ints_at,Nat.mul_one,rv_tmp,rv_cell,hEg,irN,nrA,nrM,nrE,reduceIte,reduceCtorEq,nrL]
  repeat ((with_reducible apply oV_intro);(simp (disch:=first|exact dA|fail) only [qcs,tb92,ints_at,Nat.mul_one,hEg,irN,nrA,nrM,nrE,reduceIte,reduceCtorEq,nrL];exact rfl))
  have hc':w64 (mat s b a + m) < 0:=hc
  refine ⟨by first|rfl|(simp [know, *];done), ?_⟩
  try exact frA
 ·refine ⟨by first|exact .inl rfl|exact .inr rfl, ?_⟩
  rw [ret2 Try.results92]
  simp only [↓pb,qbs,tb92,ints_at,Nat.mul_one,rv_tmp,rv_cell,hEg,irN,nrA,nrM,nrE,reduceIte,reduceCtorEq,nrL]
  repeat ((with_reducible apply oV_intro);(simp (disch:=first|exact dA|fail) only [qcs,tb92,ints_at,Nat.mul_one,hEg,irN,nrA,nrM,nrE,reduceIte,reduceCtorEq,nrL];exact rfl))
  rename_i h1
  have h1':¬ w64 (mat s b a + m) < 0:=h1
  have hc':mat s a b≤m:=hc
  refine ⟨by first|rfl|(simp [know, *];done), ?_⟩
  try exact frA
 have hw:know s a b m=(kAll s a b m 11,true):=by
  rename_i h1
  have h1':¬ w64 (mat s b a + m) < 0:=h1
  have hc':¬ mat s a b≤m:=hc
  rw [know,if_neg h1',if_neg hc']
 clear hc
 refine W_count [1,2,3,4,8,10] (by kernel_rfl) 31 (11) (H.n) [H.n + 2] [] (fun i e h=>h.get (H.n + 2)=.cells (ints (kAll s a b m i)) 96 .ex) (by simp only [↓pb,qbs,tb92,ints_at,Nat.mul_one,hEg,irN,nrA,nrM,nrE,reduceIte,reduceCtorEq,nrL]) (by focus exact topA) (H0:=H) (by focus exact frA) (by intro b hb hlt;simp at hb ⊢;try omega) ?_ ?_
 rotate_left
 intro i1 e1 h1 hi1 hE1 ei1 hF1 hF01 hTh1 hJ1
 simp only [forallC,forallL,and_true] at hE1
 try simp only [↓pb,qbs,tb92,ints_at,Nat.mul_one,hEg,irN,nrA,nrM,nrE,reduceIte,reduceCtorEq,nrL] at hE1
 have hn11:=hF1.n;have hn01:=hF01.n;try simp only [upd_n,jn_n] at hn11
 replace hEg:=And.intro ei1 hE1
 rotate_left
 ·simp only [↓pb,qbs,tb92,ints_at,Nat.mul_one,hEg,irN,nrA,nrM,nrE,reduceIte,reduceCtorEq,nrL]
  rfl
 have hla:(kAll s a b m i1).length=121:=by rw [kAll_len,hs]
 have hla2:(ints (kAll s a b m i1)).length=121:=by rw [ints_len,hla]
 repeat' (first|((with_reducible refine hK _ _ fun e2 hEn=>?_);clear hK K;simp only [lv92,forallC,forallL,and_true] at hEn;(try simp only [↓pb,qbs,tb92,ints_at,Nat.mul_one,hEg,irN,nrA,nrM,nrE,reduceIte,reduceCtorEq,nrL] at hEn);clear hEg;(try clear eg);have hEg:=hEn;clear hEn;rename Env=>eg)|((first|((with_reducible first|apply oV_intro|apply oH_intro|apply oB_intro);(simp (disch:=first|exact dA|fail) only [qcs,tb92,ints_at,Nat.mul_one,hE1,ei1,hF1.rdX,hEg,irN,nrA,nrM,nrE,reduceIte,reduceCtorEq,nrL];with_reducible exact rfl))|((with_reducible first|apply oblA_and|apply oblR_and|apply oblO_and);(focus exact obA))|(with_reducible first|refine W_regionF lv92 fun K hK=>?_|refine W_drawnF lv92 fun K hK=>?_));try simp only [↓pb,↓pd,qds,tb92,ints_at,Nat.mul_one,hE1,ei1,hF1.rdX,hEg,irN,nrA,nrM,nrE,reduceIte,reduceCtorEq,nrL])|((first|((with_reducible first|apply WO_gT|apply WO_gF|apply WD_gT|apply WD_gF);exact rfl)|(with_reducible apply W_cond));(simp only [↓pb,qbs,tb92,ints_at,Nat.mul_one,hE1,ei1,hF1.rdX,hEg,irN,nrA,nrM,nrE,reduceIte,reduceCtorEq,nrL];with_reducible exact rfl);all_goals (intro hc;(first|exact hcX hc|try simp only [hcs] at hc);try ((with_reducible first|apply woI|apply wdI);simp only [↓pb,↓pd,qds,tb92,ints_at,Nat.mul_one,hE1,ei1,hF1.rdX,hc,hEg,irN,nrA,nrM,nrE,reduceIte,reduceCtorEq,nrL])))|(with_reducible first|refine W_seq ?_|refine W_block ?_|refine W_skip ?_|refine W_ret ?_|refine W_exit ?_|apply blockK_exit)|((with_reducible apply blockK_pass);(focus decide))|fail)
 ·refine W_count [1,2,3,4,8,10,11,31] (by kernel_rfl) 34 (11) (H.n) [H.n + 2] [] (fun i e h=>h.get (H.n + 2)=.cells (ints (kRow s a b m i1 (kAll s a b m i1) i)) 96 .ex) (by simp only [↓pb,qbs,tb92,ints_at,Nat.mul_one,hE1,ei1,hEg,irN,nrA,nrM,nrE,reduceIte,reduceCtorEq,nrL]) (by focus exact topA) (H0:=H) (by focus exact frA) (by intro b hb hlt;simp at hb ⊢;try omega) ?_ ?_
  rotate_left
  intro i2 e2 h2 hi2 hE2 ei2 hF2 hF02 hTh2 hJ2
  simp only [forallC,forallL,and_true] at hE2
  try simp only [↓pb,qbs,tb92,ints_at,Nat.mul_one,hE1,ei1,hEg,irN,nrA,nrM,nrE,reduceIte,reduceCtorEq,nrL] at hE2
  have hn12:=hF2.n;have hn02:=hF02.n;try simp only [upd_n,jn_n] at hn12
  replace hEg:=And.intro ei2 hE2
  rotate_left
  ·exact hJ1
  have hlb:(kRow s a b m i1 (kAll s a b m i1) i2).length=121:=by rw [kRow_len,kAll_len,hs]
  have hlb2:(ints (kRow s a b m i1 (kAll s a b m i1) i2)).length=121:=by rw [ints_len,hlb]
  have hr2:h2.rd (H.n + 2)=some (ints (kRow s a b m i1 (kAll s a b m i1) i2)):=by rw [rd_def,hJ2];rfl
  repeat' (first|((with_reducible refine hK _ _ fun e2 hEn=>?_);clear hK K;simp only [lv92,forallC,forallL,and_true] at hEn;(try simp only [↓pb,qbs,tb92,ints_at,Nat.mul_one,hEg,irN,nrA,nrM,nrE,reduceIte,reduceCtorEq,nrL] at hEn);clear hEg;(try clear eg);have hEg:=hEn;clear hEn;rename Env=>eg)|((first|((with_reducible first|apply oV_intro|apply oH_intro|apply oB_intro);(simp (disch:=first|exact dA|fail) only [qcs,tb92,ints_at,Nat.mul_one,hE2,ei2,hr2,hJ2,hF2.rdX,hF1.rdX,hEg,irN,nrA,nrM,nrE,reduceIte,reduceCtorEq,nrL];with_reducible exact rfl))|((with_reducible first|apply oblA_and|apply oblR_and|apply oblO_and);(focus exact obA))|(with_reducible first|refine W_regionF lv92 fun K hK=>?_|refine W_drawnF lv92 fun K hK=>?_));try simp only [↓pb,↓pd,qds,tb92,ints_at,Nat.mul_one,hE2,ei2,hr2,hJ2,hF2.rdX,hF1.rdX,hEg,irN,nrA,nrM,nrE,reduceIte,reduceCtorEq,nrL])|((first|((with_reducible first|apply WO_gT|apply WO_gF|apply WD_gT|apply WD_gF);exact rfl)|(with_reducible apply W_cond));(simp only [↓pb,qbs,tb92,ints_at,Nat.mul_one,hE2,ei2,hr2,hJ2,hF2.rdX,hF1.rdX,hEg,irN,nrA,nrM,nrE,reduceIte,reduceCtorEq,nrL];with_reducible exact rfl);all_goals (intro hc;(first|exact hcX hc|try simp only [hcs] at hc);try ((with_reducible first|apply woI|apply wdI);simp only [↓pb,↓pd,qds,tb92,ints_at,Nat.mul_one,hE2,ei2,hr2,hJ2,hF2.rdX,hF1.rdX,hc,hEg,irN,nrA,nrM,nrE,reduceIte,reduceCtorEq,nrL])))|(with_reducible first|refine W_seq ?_|refine W_block ?_|refine W_skip ?_|refine W_ret ?_|refine W_exit ?_|apply blockK_exit)|((with_reducible apply blockK_pass);(focus decide))|fail)
  ·rename_i h5 _ _ _ _
   have q1:mat s i1 a < far:=by assumption
   have q2:mat s b i2 < far:=hc
   refine ⟨by omega,by simp only [↓pb,qbs,tb92,ints_at,Nat.mul_one,hE2,ei2,hEg,irN,nrA,nrM,nrE,reduceIte,reduceCtorEq,nrL];exact congrArg _ (inc64 (by omega)),by focus exact frA, ?_⟩
   simp only [↓pb,qbs,tb92,ints_at,Nat.mul_one,hEg,irN,nrA,nrM,nrE,reduceIte,reduceCtorEq,nrL]
   rw [ints_set,kRow_succ,kIn,if_pos ⟨q1,q2⟩]
   rfl
  ·have q2:¬ mat s b i2 < far:=hc
   refine ⟨by omega,by simp only [↓pb,qbs,tb92,ints_at,Nat.mul_one,hE2,ei2,hEg,irN,nrA,nrM,nrE,reduceIte,reduceCtorEq,nrL];exact congrArg _ (inc64 (by omega)),by focus exact frA, ?_⟩
   rw [hJ2,kRow_succ,kIn,if_neg (fun h=>q2 h.2)]
  ·have q2:¬ mat s i1 a < far:=by assumption
   refine ⟨by omega,by simp only [↓pb,qbs,tb92,ints_at,Nat.mul_one,hE2,ei2,hEg,irN,nrA,nrM,nrE,reduceIte,reduceCtorEq,nrL];exact congrArg _ (inc64 (by omega)),by focus exact frA, ?_⟩
   rw [hJ2,kRow_succ,kIn,if_neg (fun h=>q2 h.1)]
  ·have e11:i2=11:=by omega
   subst e11
   refine ⟨by omega,by simp only [↓pb,qbs,tb92,ints_at,Nat.mul_one,hE2,ei2,hEg,irN,nrA,nrM,nrE,reduceIte,reduceCtorEq,nrL];exact congrArg _ (inc64 (by omega)),by focus exact frA, ?_⟩
   rw [hJ2,kAll_succ]
 ·have e11:i1=11:=by omega
  subst e11
  have hr1:h1.rd (H.n + 2)=some (ints (kAll s a b m 11)):=by rw [rd_def,hJ1];rfl
  repeat' (first|((with_reducible refine hK _ _ fun e2 hEn=>?_);clear hK K;simp only [lv92,forallC,forallL,and_true] at hEn;(try simp only [↓pb,qbs,tb92,ints_at,Nat.mul_one,hEg,irN,nrA,nrM,nrE,reduceIte,reduceCtorEq,nrL] at hEn);clear hEg;(try clear eg);have hEg:=hEn;clear hEn;rename Env=>eg)|((first|((with_reducible first|apply oV_intro|apply oH_intro|apply oB_intro);(simp (disch:=first|exact dA|fail) only [qcs,tb92,ints_at,Nat.mul_one,hE1,ei1,hr1,hF1.rdX,hEg,irN,nrA,nrM,nrE,reduceIte,reduceCtorEq,nrL];with_reducible exact rfl))|((with_reducible first|apply oblA_and|apply oblR_and|apply oblO_and);(focus exact obA))|(with_reducible first|refine W_regionF lv92 fun K hK=>?_|refine W_drawnF lv92 fun K hK=>?_));try simp only [↓pb,↓pd,qds,tb92,ints_at,Nat.mul_one,hE1,ei1,hr1,hF1.rdX,hEg,irN,nrA,nrM,nrE,reduceIte,reduceCtorEq,nrL])|((first|((with_reducible first|apply WO_gT|apply WO_gF|apply WD_gT|apply WD_gF);exact rfl)|(with_reducible apply W_cond));(simp only [↓pb,qbs,tb92,ints_at,Nat.mul_one,hE1,ei1,hr1,hF1.rdX,hEg,irN,nrA,nrM,nrE,reduceIte,reduceCtorEq,nrL];with_reducible exact rfl);all_goals (intro hc;(first|exact hcX hc|try simp only [hcs] at hc);try ((with_reducible first|apply woI|apply wdI);simp only [↓pb,↓pd,qds,tb92,ints_at,Nat.mul_one,hE1,ei1,hr1,hF1.rdX,hc,hEg,irN,nrA,nrM,nrE,reduceIte,reduceCtorEq,nrL])))|(with_reducible first|refine W_seq ?_|refine W_block ?_|refine W_skip ?_|refine W_ret ?_|refine W_exit ?_|apply blockK_exit)|((with_reducible apply blockK_pass);(focus decide))|fail)
  refine ⟨by first|exact .inl rfl|exact .inr rfl, ?_⟩
  rw [ret2 Try.results92]
  simp only [↓pb,qbs,tb92,ints_at,Nat.mul_one,rv_tmp,rv_cell,hE1,hF1.rdX,hEg,irN,nrA,nrM,nrE,reduceIte,reduceCtorEq,nrL]
  repeat ((with_reducible apply oV_intro);(simp (disch:=first|exact dA|fail) only [qcs,tb92,ints_at,Nat.mul_one,hE1,hF1.rdX,hEg,irN,nrA,nrM,nrE,reduceIte,reduceCtorEq,nrL];exact rfl))
  rw [hw]
  refine ⟨by first|rfl|(simp [*];done), ?_⟩
  try exact frA
end Go.Proofs.Swa
