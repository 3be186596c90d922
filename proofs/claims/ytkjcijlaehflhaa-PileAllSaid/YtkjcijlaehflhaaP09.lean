/- Part 9. -/
import Derived.Test.YtkjcijlaehflhaaP08
import Derived.Test.YtkjcijlaehflhaaChecked
import Derived.KernelRfl
set_option linter.unusedVariables false
set_option linter.unusedSimpArgs false
set_option linter.defProp false
namespace Go.Proofs.Swa
open Go
noncomputable def fs26:Array Field:=match Try.prog.underlying 26 with|some (.struct fs)=>fs|_=>#[]
noncomputable def fs30:Array Field:=match Try.prog.underlying 30 with|some (.struct fs)=>fs|_=>#[]
noncomputable def fs28:Array Field:=match Try.prog.underlying 28 with|some (.struct fs)=>fs|_=>#[]
noncomputable def fs61:Array Field:=match Try.prog.underlying 61 with|some (.struct fs)=>fs|_=>#[]
noncomputable def fs76:Array Field:=match Try.prog.underlying 76 with|some (.struct fs)=>fs|_=>#[]
noncomputable def fs78:Array Field:=match Try.prog.underlying 78 with|some (.struct fs)=>fs|_=>#[]
noncomputable def fs85:Array Field:=match Try.prog.underlying 85 with|some (.struct fs)=>fs|_=>#[]
noncomputable def fs91:Array Field:=match Try.prog.underlying 91 with|some (.struct fs)=>fs|_=>#[]
noncomputable def fs101:Array Field:=match Try.prog.underlying 101 with|some (.struct fs)=>fs|_=>#[]
noncomputable def fs99:Array Field:=match Try.prog.underlying 99 with|some (.struct fs)=>fs|_=>#[]
noncomputable def fs144:Array Field:=match Try.prog.underlying 144 with|some (.struct fs)=>fs|_=>#[]
theorem Lj:Try.prog.underlying 31=some (.slice 3):=by kernel_rfl
theorem B0h:Try.prog.underlying 26=some (.struct fs26):=by kernel_rfl
theorem Va:Try.prog.underlying 24=some (.slice 30):=by kernel_rfl
theorem Qq:Try.prog.underlying 22=some (.slice 78):=by kernel_rfl
theorem Vb:Try.prog.underlying 23=some (.slice 76):=by kernel_rfl
theorem Vc:Try.prog.underlying 42=some (.slice 28):=by kernel_rfl
theorem A0A:Try.prog.underlying 30=some (.struct fs30):=by kernel_rfl
theorem A6j:Try.prog.underlying 28=some (.struct fs28):=by kernel_rfl
theorem Vd:Try.prog.underlying 71=some (.slice 31):=by kernel_rfl
theorem A3N:Try.prog.underlying 3=some (.int .i64):=by kernel_rfl
theorem B0i:Try.prog.underlying 61=some (.struct fs61):=by kernel_rfl
theorem A3O:Try.prog.underlying 76=some (.struct fs76):=by kernel_rfl
theorem A6k:Try.prog.underlying 78=some (.struct fs78):=by kernel_rfl
theorem B26:Try.prog.underlying 85=some (.struct fs85):=by kernel_rfl
theorem B27:Try.prog.underlying 83=some (.int .u64):=by kernel_rfl
theorem B0j:Try.prog.underlying 91=some (.struct fs91):=by kernel_rfl
theorem Ve:Try.prog.underlying 89=some (.slice 99):=by kernel_rfl
theorem Rg:Try.prog.underlying 101=some (.struct fs101):=by kernel_rfl
theorem B0k:Try.prog.underlying 99=some (.struct fs99):=by kernel_rfl
theorem B5t:Try.prog.underlying 96=some (.array 11 94):=by kernel_rfl
theorem B5u:Try.prog.underlying 94=some (.array 11 3):=by kernel_rfl
theorem F7:Try.prog.underlying 114=some (.slice 119):=by kernel_rfl
theorem X5:Try.prog.underlying 150=some (.slice 114):=by kernel_rfl
theorem A1Z:Try.prog.underlying 131=some (.array 2 3):=by kernel_rfl
theorem Vf:Try.prog.underlying 97=some (.slice 101):=by kernel_rfl
theorem Ue:Try.prog.underlying 142=some (.slice 144):=by kernel_rfl
theorem X6:Try.prog.underlying 144=some (.struct fs144):=by kernel_rfl
theorem Pu:Try.prog.underlying 146=some (.slice 96):=by kernel_rfl
theorem B5v:Bv Try.prog 26=some 3:=by kernel_rfl
theorem sz3:Bv Try.prog 3=some 1:=by kernel_rfl
theorem B6W:Bv Try.prog 24=some 1:=by kernel_rfl
theorem A4X:Bv Try.prog 30=some 6:=by kernel_rfl
theorem B6X:Bv Try.prog 22=some 1:=by kernel_rfl
theorem B6Y:Bv Try.prog 23=some 1:=by kernel_rfl
theorem B5w:Bv Try.prog 61=some 2:=by kernel_rfl
theorem A4Y:Bv Try.prog 28=some 2:=by kernel_rfl
theorem B0l:Bv Try.prog 31=some 1:=by kernel_rfl
theorem A4Z:Bv Try.prog 76=some 4:=by kernel_rfl
theorem A10:Bv Try.prog 78=some 3:=by kernel_rfl
theorem B6Z:Bv Try.prog 83=some 1:=by kernel_rfl
theorem sz4:Bv Try.prog 4=some 1:=by kernel_rfl
theorem B5x:Bv Try.prog 91=some 4:=by kernel_rfl
theorem B60:Bv Try.prog 89=some 1:=by kernel_rfl
theorem A40:Bv Try.prog 99=some 122:=by kernel_rfl
theorem X7:Bv Try.prog 101=some 4:=by kernel_rfl
theorem A3P:Bv Try.prog 96=some 121:=by kernel_rfl
theorem B61:Bv Try.prog 94=some 11:=by kernel_rfl
theorem Lk:Bv Try.prog 119=some 1:=by kernel_rfl
theorem A6l:Bv Try.prog 114=some 1:=by kernel_rfl
theorem B62:Bv Try.prog 97=some 1:=by kernel_rfl
theorem A0B:Bv Try.prog 144=some 4:=by kernel_rfl
theorem B5y:Bv Try.prog 145=some 1:=by kernel_rfl
theorem B5z:Bv Try.prog 154=some 1:=by kernel_rfl
theorem by3:Fp Try.prog 3=some 8:=by kernel_rfl
theorem B64:Fp Try.prog 30=some 48:=by kernel_rfl
theorem B65:Fp Try.prog 28=some 16:=by kernel_rfl
theorem B66:Fp Try.prog 78=some 24:=by kernel_rfl
theorem B67:Fp Try.prog 76=some 32:=by kernel_rfl
theorem X8:Fp Try.prog 119=some 8:=by kernel_rfl
theorem B68:Fp Try.prog 31=some 24:=by kernel_rfl
theorem B69:Fp Try.prog 99=some 992:=by kernel_rfl
theorem B7a:Fp Try.prog 96=some 968:=by kernel_rfl
theorem B5A:Fp Try.prog 101=some 32:=by kernel_rfl
theorem B7b:Em Try.prog 26=some true:=by kernel_rfl
theorem B7c:Em Try.prog 24=some false:=by kernel_rfl
theorem B7d:Em Try.prog 30=some true:=by kernel_rfl
theorem B7e:Em Try.prog 22=some false:=by kernel_rfl
theorem ag3:Em Try.prog 3=some false:=by kernel_rfl
theorem B7f:Em Try.prog 23=some false:=by kernel_rfl
theorem B7g:Em Try.prog 28=some true:=by kernel_rfl
theorem B7h:Em Try.prog 61=some true:=by kernel_rfl
theorem B7i:Em Try.prog 31=some false:=by kernel_rfl
theorem B7j:Em Try.prog 83=some false:=by kernel_rfl
theorem B7k:Em Try.prog 89=some false:=by kernel_rfl
theorem B7l:Em Try.prog 99=some true:=by kernel_rfl
theorem B7m:Em Try.prog 91=some true:=by kernel_rfl
theorem B5B:Em Try.prog 101=some true:=by kernel_rfl
theorem B7n:Em Try.prog 78=some true:=by kernel_rfl
theorem B7o:Em Try.prog 76=some true:=by kernel_rfl
theorem ag4:Em Try.prog 4=some false:=by kernel_rfl
theorem B7p:Em Try.prog 97=some false:=by kernel_rfl
theorem B5C:Em Try.prog 144=some true:=by kernel_rfl
theorem B7q:Em Try.prog 96=some true:=by kernel_rfl
theorem B5D:Em Try.prog 145=some false:=by kernel_rfl
theorem B5E:Em Try.prog 114=some false:=by kernel_rfl
theorem B5F:Em Try.prog 154=some false:=by kernel_rfl
theorem B5G:Em Try.prog 119=some false:=by kernel_rfl
theorem zr3:Dm Try.prog 3=some (.int .i64 0):=by kernel_rfl
theorem B7r:Dm Try.prog 26=some (.agg ([.slice none 0 0,.slice none 0 0,.slice none 0 0]:List Value).toArray):=by kernel_rfl
theorem B2k:Dm Try.prog 30=some (.agg ([.int .i64 0,.int .i64 0,.int .i64 0,.int .i64 0,.int .i64 0] ++ [.bool false]:List Value).toArray):=by kernel_rfl
theorem B5H:Dm Try.prog 61=some (.agg ([.slice none 0 0,.slice none 0 0]:List Value).toArray):=by kernel_rfl
theorem B2l:Dm Try.prog 28=some (.agg ([.int .i64 0,.int .i64 0]:List Value).toArray):=by kernel_rfl
theorem B7s:Dm Try.prog 85=some (.agg ([.int .u64 0]:List Value).toArray):=by kernel_rfl
theorem B2m:Dm Try.prog 78=some (.agg ([.int .i64 0,.int .i64 0,.int .i64 0]:List Value).toArray):=by kernel_rfl
theorem B2n:Dm Try.prog 76=some (.agg ([.int .i64 0,.int .i64 0,.int .i64 0,.int .i64 0]:List Value).toArray):=by kernel_rfl
theorem B5I:Dm Try.prog 91=some (.agg ([.slice none 0 0,.slice none 0 0,.slice none 0 0,.slice none 0 0]:List Value).toArray):=by kernel_rfl
theorem B2o:Dm Try.prog 99=some (.agg (zs 121 ++ [.slice none 0 0]:List Value).toArray):=by kernel_rfl
theorem A6m:Dm Try.prog 101=some (.agg ([.int .i64 0,.int .i64 0,.int .i64 0,.int .i64 0]:List Value).toArray):=by kernel_rfl
theorem Vg:Dm Try.prog 119=some (.nilFunc):=by kernel_rfl
theorem B28:Dm Try.prog 114=some (.slice none 0 0):=by kernel_rfl
theorem B5J:Dm Try.prog 131=some (.agg ([.int .i64 0,.int .i64 0]:List Value).toArray):=by kernel_rfl
theorem B5K:Dm Try.prog 31=some (.slice none 0 0):=by kernel_rfl
theorem A6n:Dm Try.prog 144=some (.agg ([.int .i64 0,.int .i64 0,.int .i64 0,.int .i64 0]:List Value).toArray):=by kernel_rfl
theorem B5L:Dm Try.prog 145=some (.nilFunc):=by kernel_rfl
theorem B2p:Dm Try.prog 96=some (.agg (zs 121:List Value).toArray):=by kernel_rfl
theorem zr4:Dm Try.prog 4=some (.bool false):=by kernel_rfl
theorem B5M:Dm Try.prog 154=some (.nilFunc):=by kernel_rfl
theorem Uf {H:Aa}{b o:Nat}:Ei Try.prog 26 H (Bc b o)=(H.rd b).bind fun c=>atN c o 3:=loadN B7b B5v _ rfl
theorem Y1 {H:Aa}{b o:Nat}:Ei Try.prog 24 H (Bc b o)=(H.rd b).bind fun c=>at1 c o:=load1 B7c _ rfl
theorem B0m {H:Aa}{b o:Nat}:Ei Try.prog 30 H (Bc b o)=(H.rd b).bind fun c=>atN c o 6:=loadN B7d A4X _ rfl
theorem Ug {H:Aa}{b o:Nat}:Ei Try.prog 22 H (Bc b o)=(H.rd b).bind fun c=>at1 c o:=load1 B7e _ rfl
theorem S8 {H:Aa}{b o:Nat}:Ei Try.prog 3 H (Bc b o)=(H.rd b).bind fun c=>at1 c o:=load1 ag3 _ rfl
theorem A3Q {H:Aa}{b o:Nat}:Ei Try.prog 23 H (Bc b o)=(H.rd b).bind fun c=>at1 c o:=load1 B7f _ rfl
theorem B4g {H:Aa}{b o:Nat}:Ei Try.prog 28 H (Bc b o)=(H.rd b).bind fun c=>atN c o 2:=loadN B7g A4Y _ rfl
theorem B5N {H:Aa}{b o:Nat}:Ei Try.prog 61 H (Bc b o)=(H.rd b).bind fun c=>atN c o 2:=loadN B7h B5w _ rfl
theorem B0n {H:Aa}{b o:Nat}:Ei Try.prog 31 H (Bc b o)=(H.rd b).bind fun c=>at1 c o:=load1 B7i _ rfl
theorem B5O {H:Aa}{b o:Nat}:Ei Try.prog 83 H (Bc b o)=(H.rd b).bind fun c=>at1 c o:=load1 B7j _ rfl
theorem A41 {H:Aa}{b o:Nat}:Ei Try.prog 89 H (Bc b o)=(H.rd b).bind fun c=>at1 c o:=load1 B7k _ rfl
theorem A42 {H:Aa}{b o:Nat}:Ei Try.prog 99 H (Bc b o)=(H.rd b).bind fun c=>atN c o 122:=loadN B7l A40 _ rfl
theorem A43 {H:Aa}{b o:Nat}:Ei Try.prog 91 H (Bc b o)=(H.rd b).bind fun c=>atN c o 4:=loadN B7m B5x _ rfl
theorem A3R {H:Aa}{b o:Nat}:Ei Try.prog 101 H (Bc b o)=(H.rd b).bind fun c=>atN c o 4:=loadN B5B X7 _ rfl
theorem B4h {H:Aa}{b o:Nat}:Ei Try.prog 78 H (Bc b o)=(H.rd b).bind fun c=>atN c o 3:=loadN B7n A10 _ rfl
theorem B5P {H:Aa}{b o:Nat}:Ei Try.prog 76 H (Bc b o)=(H.rd b).bind fun c=>atN c o 4:=loadN B7o A4Z _ rfl
theorem ld4 {H:Aa}{b o:Nat}:Ei Try.prog 4 H (Bc b o)=(H.rd b).bind fun c=>at1 c o:=load1 ag4 _ rfl
theorem B5Q {H:Aa}{b o:Nat}:Ei Try.prog 97 H (Bc b o)=(H.rd b).bind fun c=>at1 c o:=load1 B7p _ rfl
theorem A6o {H:Aa}{b o:Nat}:Ei Try.prog 144 H (Bc b o)=(H.rd b).bind fun c=>atN c o 4:=loadN B5C A0B _ rfl
theorem B0o {H:Aa}{b o:Nat}:Ei Try.prog 96 H (Bc b o)=(H.rd b).bind fun c=>atN c o 121:=loadN B7q A3P _ rfl
theorem B29 {H:Aa}{b o:Nat}:Ei Try.prog 145 H (Bc b o)=(H.rd b).bind fun c=>at1 c o:=load1 B5D _ rfl
theorem B0p {H:Aa}{b o:Nat}:Ei Try.prog 114 H (Bc b o)=(H.rd b).bind fun c=>at1 c o:=load1 B5E _ rfl
theorem B5R {H:Aa}{b o:Nat}:Ei Try.prog 154 H (Bc b o)=(H.rd b).bind fun c=>at1 c o:=load1 B5F _ rfl
theorem B3a {H:Aa}{b o:Nat}:Ei Try.prog 119 H (Bc b o)=(H.rd b).bind fun c=>at1 c o:=load1 B5G _ rfl
theorem B5S {H:Aa}{b o:Nat}{x:Value}:D4 Try.prog 26 H (Bc b o) x=Mg H b o 3 x (H.get b):=Ef B5v
theorem B7t {H:Aa}{b o:Nat}{x:Value}:D4 Try.prog 24 H (Bc b o) x=Mg H b o 1 x (H.get b):=Ef B6W
theorem B5T {H:Aa}{b o:Nat}{x:Value}:D4 Try.prog 61 H (Bc b o) x=Mg H b o 2 x (H.get b):=Ef B5w
theorem B2q {H:Aa}{b o:Nat}{x:Value}:D4 Try.prog 28 H (Bc b o) x=Mg H b o 2 x (H.get b):=Ef A4Y
theorem st3 {H:Aa}{b o:Nat}{x:Value}:D4 Try.prog 3 H (Bc b o) x=Mg H b o 1 x (H.get b):=Ef sz3
theorem A44 {H:Aa}{b o:Nat}{x:Value}:D4 Try.prog 30 H (Bc b o) x=Mg H b o 6 x (H.get b):=Ef A4X
theorem B5U {H:Aa}{b o:Nat}{x:Value}:D4 Try.prog 83 H (Bc b o) x=Mg H b o 1 x (H.get b):=Ef B6Z
theorem B7u {H:Aa}{b o:Nat}{x:Value}:D4 Try.prog 22 H (Bc b o) x=Mg H b o 1 x (H.get b):=Ef B6X
theorem B7v {H:Aa}{b o:Nat}{x:Value}:D4 Try.prog 23 H (Bc b o) x=Mg H b o 1 x (H.get b):=Ef B6Y
theorem st4 {H:Aa}{b o:Nat}{x:Value}:D4 Try.prog 4 H (Bc b o) x=Mg H b o 1 x (H.get b):=Ef sz4
theorem B2r {H:Aa}{b o:Nat}{x:Value}:D4 Try.prog 91 H (Bc b o) x=Mg H b o 4 x (H.get b):=Ef B5x
theorem A7V {H:Aa}{b o:Nat}{x:Value}:D4 Try.prog 99 H (Bc b o) x=Mg H b o 122 x (H.get b):=Ef A40
theorem A3S {H:Aa}{b o:Nat}{x:Value}:D4 Try.prog 101 H (Bc b o) x=Mg H b o 4 x (H.get b):=Ef X7
theorem B4j {H:Aa}{b o:Nat}{x:Value}:D4 Try.prog 78 H (Bc b o) x=Mg H b o 3 x (H.get b):=Ef A10
theorem B5V {H:Aa}{b o:Nat}{x:Value}:D4 Try.prog 76 H (Bc b o) x=Mg H b o 4 x (H.get b):=Ef A4Z
theorem B7x {H:Aa}{b o:Nat}{x:Value}:D4 Try.prog 89 H (Bc b o) x=Mg H b o 1 x (H.get b):=Ef B60
theorem B0q {H:Aa}{b o:Nat}{x:Value}:D4 Try.prog 144 H (Bc b o) x=Mg H b o 4 x (H.get b):=Ef A0B
theorem B5W {H:Aa}{b o:Nat}{x:Value}:D4 Try.prog 145 H (Bc b o) x=Mg H b o 1 x (H.get b):=Ef B5y
theorem B5X {H:Aa}{b o:Nat}{x:Value}:D4 Try.prog 154 H (Bc b o) x=Mg H b o 1 x (H.get b):=Ef B5z
theorem B7y {H:Aa}{b o:Nat}{x:Value}:D4 Try.prog 97 H (Bc b o) x=Mg H b o 1 x (H.get b):=Ef B62
theorem B5Y {H:Aa}{b o:Nat}{x:Value}:D4 Try.prog 114 H (Bc b o) x=Mg H b o 1 x (H.get b):=Ef A6l
theorem B2s {H:Aa}{b o:Nat}{x:Value}:D4 Try.prog 96 H (Bc b o) x=Mg H b o 121 x (H.get b):=Ef A3P
theorem B5Z {H:Aa}:Fd Try.prog 26 H=some (Bc H.n 0,H.upd (H.n+1) H.n (.cells ([.slice none 0 0,.slice none 0 0,.slice none 0 0]:List Value) 26 .ex)):=F8 B7r (by kernel_rfl)
theorem B50 {H:Aa}:Fd Try.prog 61 H=some (Bc H.n 0,H.upd (H.n+1) H.n (.cells ([.slice none 0 0,.slice none 0 0]:List Value) 61 .ex)):=F8 B5H (by kernel_rfl)
theorem B4k {H:Aa}:Fd Try.prog 28 H=some (Bc H.n 0,H.upd (H.n+1) H.n (.cells ([.int .i64 0,.int .i64 0]:List Value) 28 .ex)):=F8 B2l (by kernel_rfl)
theorem A45 {H:Aa}:Fd Try.prog 30 H=some (Bc H.n 0,H.upd (H.n+1) H.n (.cells ([.int .i64 0,.int .i64 0,.int .i64 0,.int .i64 0,.int .i64 0] ++ [.bool false]:List Value) 30 .ex)):=F8 B2k (by kernel_rfl)
theorem B2t {H:Aa}:Fd Try.prog 91 H=some (Bc H.n 0,H.upd (H.n+1) H.n (.cells ([.slice none 0 0,.slice none 0 0,.slice none 0 0,.slice none 0 0]:List Value) 91 .ex)):=F8 B5I (by kernel_rfl)
theorem A7W {H:Aa}:Fd Try.prog 99 H=some (Bc H.n 0,H.upd (H.n+1) H.n (.cells (zs 121 ++ [.slice none 0 0]:List Value) 99 .ex)):=F8 B2o (by kernel_rfl)
theorem A3T {H:Aa}:Fd Try.prog 101 H=some (Bc H.n 0,H.upd (H.n+1) H.n (.cells ([.int .i64 0,.int .i64 0,.int .i64 0,.int .i64 0]:List Value) 101 .ex)):=F8 A6m (by kernel_rfl)
theorem B4l {H:Aa}:Fd Try.prog 78 H=some (Bc H.n 0,H.upd (H.n+1) H.n (.cells ([.int .i64 0,.int .i64 0,.int .i64 0]:List Value) 78 .ex)):=F8 B2m (by kernel_rfl)
theorem B51 {H:Aa}:Fd Try.prog 76 H=some (Bc H.n 0,H.upd (H.n+1) H.n (.cells ([.int .i64 0,.int .i64 0,.int .i64 0,.int .i64 0]:List Value) 76 .ex)):=F8 B2n (by kernel_rfl)
theorem B0r {H:Aa}:Fd Try.prog 144 H=some (Bc H.n 0,H.upd (H.n+1) H.n (.cells ([.int .i64 0,.int .i64 0,.int .i64 0,.int .i64 0]:List Value) 144 .ex)):=F8 A6n (by kernel_rfl)
theorem B52 {H:Aa}:Fd Try.prog 145 H=some (Bc H.n 0,H.upd (H.n+1) H.n (.cells ([.nilFunc]:List Value) 145 .ex)):=F8 B5L (by kernel_rfl)
theorem al4 {H:Aa}:Fd Try.prog 4 H=some (Bc H.n 0,H.upd (H.n+1) H.n (.cells ([.bool false]:List Value) 4 .ex)):=F8 zr4 (by kernel_rfl)
theorem B53 {H:Aa}:Fd Try.prog 154 H=some (Bc H.n 0,H.upd (H.n+1) H.n (.cells ([.nilFunc]:List Value) 154 .ex)):=F8 B5M (by kernel_rfl)
theorem al3 {H:Aa}:Fd Try.prog 3 H=some (Bc H.n 0,H.upd (H.n+1) H.n (.cells ([.int .i64 0]:List Value) 3 .ex)):=F8 zr3 (by kernel_rfl)
theorem B54 {H:Aa}:Fd Try.prog 114 H=some (Bc H.n 0,H.upd (H.n+1) H.n (.cells ([.slice none 0 0]:List Value) 114 .ex)):=F8 B28 (by kernel_rfl)
theorem B4m {H:Aa}:Fd Try.prog 96 H=some (Bc H.n 0,H.upd (H.n+1) H.n (.cells (zs 121:List Value) 96 .ex)):=F8 B2p (by kernel_rfl)
theorem M5 {b o:Nat}:B0 Try.prog 26 (Bc b o) 2=some (Bc b (o+2)):=By B0h (f:=2) (fd:=(fs26[2]?).getD default) (by kernel_rfl) (sz:=1) (by kernel_rfl) (by decide) (by kernel_rfl)
theorem Kl {b o:Nat}:B0 Try.prog 26 (Bc b o) 0=some (Bc b (o+0)):=By B0h (f:=0) (fd:=(fs26[0]?).getD default) (by kernel_rfl) (sz:=1) (by kernel_rfl) (by decide) (by kernel_rfl)
theorem Pv {b o:Nat}:B0 Try.prog 26 (Bc b o) 1=some (Bc b (o+1)):=By B0h (f:=1) (fd:=(fs26[1]?).getD default) (by kernel_rfl) (sz:=1) (by kernel_rfl) (by decide) (by kernel_rfl)
theorem X9 {b o:Nat}:B0 Try.prog 30 (Bc b o) 3=some (Bc b (o+3)):=By A0A (f:=3) (fd:=(fs30[3]?).getD default) (by kernel_rfl) (sz:=2) (by kernel_rfl) (by decide) (by kernel_rfl)
theorem A11 {b o:Nat}:B0 Try.prog 28 (Bc b o) 1=some (Bc b (o+1)):=By A6j (f:=1) (fd:=(fs28[1]?).getD default) (by kernel_rfl) (sz:=1) (by kernel_rfl) (by decide) (by kernel_rfl)
theorem A12 {b o:Nat}:B0 Try.prog 28 (Bc b o) 0=some (Bc b (o+0)):=By A6j (f:=0) (fd:=(fs28[0]?).getD default) (by kernel_rfl) (sz:=1) (by kernel_rfl) (by decide) (by kernel_rfl)
theorem B0s {b o:Nat}:B0 Try.prog 61 (Bc b o) 1=some (Bc b (o+1)):=By B0i (f:=1) (fd:=(fs61[1]?).getD default) (by kernel_rfl) (sz:=1) (by kernel_rfl) (by decide) (by kernel_rfl)
theorem Ya {b o:Nat}:B0 Try.prog 30 (Bc b o) 2=some (Bc b (o+2)):=By A0A (f:=2) (fd:=(fs30[2]?).getD default) (by kernel_rfl) (sz:=1) (by kernel_rfl) (by decide) (by kernel_rfl)
theorem A46 {b o:Nat}:B0 Try.prog 76 (Bc b o) 0=some (Bc b (o+0)):=By A3O (f:=0) (fd:=(fs76[0]?).getD default) (by kernel_rfl) (sz:=1) (by kernel_rfl) (by decide) (by kernel_rfl)
theorem A47 {b o:Nat}:B0 Try.prog 76 (Bc b o) 1=some (Bc b (o+1)):=By A3O (f:=1) (fd:=(fs76[1]?).getD default) (by kernel_rfl) (sz:=1) (by kernel_rfl) (by decide) (by kernel_rfl)
theorem A48 {b o:Nat}:B0 Try.prog 78 (Bc b o) 2=some (Bc b (o+2)):=By A6k (f:=2) (fd:=(fs78[2]?).getD default) (by kernel_rfl) (sz:=1) (by kernel_rfl) (by decide) (by kernel_rfl)
theorem Rh {b o:Nat}:B0 Try.prog 30 (Bc b o) 0=some (Bc b (o+0)):=By A0A (f:=0) (fd:=(fs30[0]?).getD default) (by kernel_rfl) (sz:=1) (by kernel_rfl) (by decide) (by kernel_rfl)
theorem Pw {b o:Nat}:B0 Try.prog 30 (Bc b o) 1=some (Bc b (o+1)):=By A0A (f:=1) (fd:=(fs30[1]?).getD default) (by kernel_rfl) (sz:=1) (by kernel_rfl) (by decide) (by kernel_rfl)
theorem A49 {b o:Nat}:B0 Try.prog 76 (Bc b o) 2=some (Bc b (o+2)):=By A3O (f:=2) (fd:=(fs76[2]?).getD default) (by kernel_rfl) (sz:=1) (by kernel_rfl) (by decide) (by kernel_rfl)
theorem A5a {b o:Nat}:B0 Try.prog 76 (Bc b o) 3=some (Bc b (o+3)):=By A3O (f:=3) (fd:=(fs76[3]?).getD default) (by kernel_rfl) (sz:=1) (by kernel_rfl) (by decide) (by kernel_rfl)
theorem B0t {b o:Nat}:B0 Try.prog 85 (Bc b o) 0=some (Bc b (o+0)):=By B26 (f:=0) (fd:=(fs85[0]?).getD default) (by kernel_rfl) (sz:=1) (by kernel_rfl) (by decide) (by kernel_rfl)
theorem Ri {b o:Nat}:B0 Try.prog 30 (Bc b o) 4=some (Bc b (o+5)):=By A0A (f:=4) (fd:=(fs30[4]?).getD default) (by kernel_rfl) (sz:=1) (by kernel_rfl) (by decide) (by kernel_rfl)
theorem Rj {b o:Nat}:B0 Try.prog 91 (Bc b o) 1=some (Bc b (o+3)):=By B0j (f:=1) (fd:=(fs91[1]?).getD default) (by kernel_rfl) (sz:=1) (by kernel_rfl) (by decide) (by kernel_rfl)
theorem Uh {b o:Nat}:B0 Try.prog 99 (Bc b o) 0=some (Bc b (o+0)):=By B0k (f:=0) (fd:=(fs99[0]?).getD default) (by kernel_rfl) (sz:=121) (by kernel_rfl) (by decide) (by kernel_rfl)
theorem A5b {b o:Nat}:B0 Try.prog 78 (Bc b o) 0=some (Bc b (o+0)):=By A6k (f:=0) (fd:=(fs78[0]?).getD default) (by kernel_rfl) (sz:=1) (by kernel_rfl) (by decide) (by kernel_rfl)
theorem A5c {b o:Nat}:B0 Try.prog 78 (Bc b o) 1=some (Bc b (o+1)):=By A6k (f:=1) (fd:=(fs78[1]?).getD default) (by kernel_rfl) (sz:=1) (by kernel_rfl) (by decide) (by kernel_rfl)
theorem A13 {b o:Nat}:B0 Try.prog 101 (Bc b o) 3=some (Bc b (o+3)):=By Rg (f:=3) (fd:=(fs101[3]?).getD default) (by kernel_rfl) (sz:=1) (by kernel_rfl) (by decide) (by kernel_rfl)
theorem A14 {b o:Nat}:B0 Try.prog 61 (Bc b o) 0=some (Bc b (o+0)):=By B0i (f:=0) (fd:=(fs61[0]?).getD default) (by kernel_rfl) (sz:=1) (by kernel_rfl) (by decide) (by kernel_rfl)
theorem B0u {b o:Nat}:B0 Try.prog 99 (Bc b o) 1=some (Bc b (o+121)):=By B0k (f:=1) (fd:=(fs99[1]?).getD default) (by kernel_rfl) (sz:=1) (by kernel_rfl) (by decide) (by kernel_rfl)
theorem A6p {b o:Nat}:B0 Try.prog 101 (Bc b o) 0=some (Bc b (o+0)):=By Rg (f:=0) (fd:=(fs101[0]?).getD default) (by kernel_rfl) (sz:=1) (by kernel_rfl) (by decide) (by kernel_rfl)
theorem A15 {b o:Nat}:B0 Try.prog 91 (Bc b o) 0=some (Bc b (o+0)):=By B0j (f:=0) (fd:=(fs91[0]?).getD default) (by kernel_rfl) (sz:=3) (by kernel_rfl) (by decide) (by kernel_rfl)
theorem Qc {b o:Nat}:B0 Try.prog 101 (Bc b o) 1=some (Bc b (o+1)):=By Rg (f:=1) (fd:=(fs101[1]?).getD default) (by kernel_rfl) (sz:=1) (by kernel_rfl) (by decide) (by kernel_rfl)
theorem St {b o:Nat}:B0 Try.prog 101 (Bc b o) 2=some (Bc b (o+2)):=By Rg (f:=2) (fd:=(fs101[2]?).getD default) (by kernel_rfl) (sz:=1) (by kernel_rfl) (by decide) (by kernel_rfl)
theorem A6q {b o:Nat}:B0 Try.prog 144 (Bc b o) 0=some (Bc b (o+0)):=By X6 (f:=0) (fd:=(fs144[0]?).getD default) (by kernel_rfl) (sz:=1) (by kernel_rfl) (by decide) (by kernel_rfl)
theorem A6r {b o:Nat}:B0 Try.prog 144 (Bc b o) 1=some (Bc b (o+1)):=By X6 (f:=1) (fd:=(fs144[1]?).getD default) (by kernel_rfl) (sz:=1) (by kernel_rfl) (by decide) (by kernel_rfl)
theorem A6s {b o:Nat}:B0 Try.prog 144 (Bc b o) 2=some (Bc b (o+2)):=By X6 (f:=2) (fd:=(fs144[2]?).getD default) (by kernel_rfl) (sz:=1) (by kernel_rfl) (by decide) (by kernel_rfl)
theorem A6t {b o:Nat}:B0 Try.prog 144 (Bc b o) 3=some (Bc b (o+3)):=By X6 (f:=3) (fd:=(fs144[3]?).getD default) (by kernel_rfl) (sz:=1) (by kernel_rfl) (by decide) (by kernel_rfl)
theorem A6u {cs:Array Value}:Ow Try.prog 101 (.agg cs) 1=at1 cs.toList 1:=Zn Rg (f:=1) (fd:=(fs101[1]?).getD default) (by kernel_rfl) (by kernel_rfl) (sz:=1) (by kernel_rfl) (by kernel_rfl)
theorem B2u {cs:Array Value}:Ow Try.prog 101 (.agg cs) 2=at1 cs.toList 2:=Zn Rg (f:=2) (fd:=(fs101[2]?).getD default) (by kernel_rfl) (by kernel_rfl) (sz:=1) (by kernel_rfl) (by kernel_rfl)
theorem N8 {b o n c:Nat}{k:IntKind}{i:Int}(h0:0≤i)(h1:i<n):Ca Try.prog 31 (.slice (some ⟨b,o,none⟩) n c) (.int k i)=some (Bc b (o+i.toNat*1)):=Ds Lj sz3 h0 h1
theorem B7A {b o n c:Nat}{k:IntKind}{i:Int}(h0:0≤i)(h1:i<n):Ca Try.prog 42 (.slice (some ⟨b,o,none⟩) n c) (.int k i)=some (Bc b (o+i.toNat*2)):=Ds Vc A4Y h0 h1
theorem A16 {b o n c:Nat}{k:IntKind}{i:Int}(h0:0≤i)(h1:i<n):Ca Try.prog 24 (.slice (some ⟨b,o,none⟩) n c) (.int k i)=some (Bc b (o+i.toNat*6)):=Ds Va A4X h0 h1
theorem B7B {b o n c:Nat}{k:IntKind}{i:Int}(h0:0≤i)(h1:i<n):Ca Try.prog 71 (.slice (some ⟨b,o,none⟩) n c) (.int k i)=some (Bc b (o+i.toNat*1)):=Ds Vd B0l h0 h1
theorem A7X {b o n c:Nat}{k:IntKind}{i:Int}(h0:0≤i)(h1:i<n):Ca Try.prog 23 (.slice (some ⟨b,o,none⟩) n c) (.int k i)=some (Bc b (o+i.toNat*4)):=Ds Vb A4Z h0 h1
theorem B0v {b o n c:Nat}{k:IntKind}{i:Int}(h0:0≤i)(h1:i<n):Ca Try.prog 22 (.slice (some ⟨b,o,none⟩) n c) (.int k i)=some (Bc b (o+i.toNat*3)):=Ds Qq A10 h0 h1
theorem A7Y {b o n c:Nat}{k:IntKind}{i:Int}(h0:0≤i)(h1:i<n):Ca Try.prog 89 (.slice (some ⟨b,o,none⟩) n c) (.int k i)=some (Bc b (o+i.toNat*122)):=Ds Ve A40 h0 h1
theorem A5d {b o:Nat}{k:IntKind}{i:Int}(h0:0≤i)(h1:i<11):Ca Try.prog 96 (Bc b o) (.int k i)=some (Bc b (o+i.toNat*11)):=O5 B5t B61 h0 h1
theorem A5e {b o:Nat}{k:IntKind}{i:Int}(h0:0≤i)(h1:i<11):Ca Try.prog 94 (Bc b o) (.int k i)=some (Bc b (o+i.toNat*1)):=O5 B5u sz3 h0 h1
theorem B55 {b o n c:Nat}{k:IntKind}{i:Int}(h0:0≤i)(h1:i<n):Ca Try.prog 97 (.slice (some ⟨b,o,none⟩) n c) (.int k i)=some (Bc b (o+i.toNat*4)):=Ds Vf X7 h0 h1
theorem B3b {b o n c:Nat}{k:IntKind}{i:Int}(h0:0≤i)(h1:i<n):Ca Try.prog 142 (.slice (some ⟨b,o,none⟩) n c) (.int k i)=some (Bc b (o+i.toNat*4)):=Ds Ue A0B h0 h1
theorem B56 {b o n c:Nat}{k:IntKind}{i:Int}(h0:0≤i)(h1:i<n):Ca Try.prog 150 (.slice (some ⟨b,o,none⟩) n c) (.int k i)=some (Bc b (o+i.toNat*1)):=Ds X5 A6l h0 h1
theorem B3c {b o n c:Nat}{k:IntKind}{i:Int}(h0:0≤i)(h1:i<n):Ca Try.prog 114 (.slice (some ⟨b,o,none⟩) n c) (.int k i)=some (Bc b (o+i.toNat*1)):=Ds F7 Lk h0 h1
theorem B57 {b o n c:Nat}{k:IntKind}{i:Int}(h0:0≤i)(h1:i<n):Ca Try.prog 146 (.slice (some ⟨b,o,none⟩) n c) (.int k i)=some (Bc b (o+i.toNat*121)):=Ds Pu A3P h0 h1
theorem Eb {H:Aa}{n:Nat}{v:Value}{c:List Value}(h:SR H 1 n v c){k:IntKind}{i:Int}(h0:0≤i)(h1:i<n):Ca Try.prog 31 v (.int k i)=some (Bc (C4 v) (Gy v+i.toNat*1)):=h.indexAddr Lj sz3 h0 h1
theorem A0C {H:Aa}{n:Nat}{v:Value}{c:List Value}(h:SR H 2 n v c){k:IntKind}{i:Int}(h0:0≤i)(h1:i<n):Ca Try.prog 42 v (.int k i)=some (Bc (C4 v) (Gy v+i.toNat*2)):=h.indexAddr Vc A4Y h0 h1
theorem Ce {H:Aa}{n:Nat}{v:Value}{c:List Value}(h:SR H 6 n v c){k:IntKind}{i:Int}(h0:0≤i)(h1:i<n):Ca Try.prog 24 v (.int k i)=some (Bc (C4 v) (Gy v+i.toNat*6)):=h.indexAddr Va A4X h0 h1
theorem Ll {H:Aa}{n:Nat}{v:Value}{c:List Value}(h:SR H 1 n v c){k:IntKind}{i:Int}(h0:0≤i)(h1:i<n):Ca Try.prog 71 v (.int k i)=some (Bc (C4 v) (Gy v+i.toNat*1)):=h.indexAddr Vd B0l h0 h1
theorem Fo {H:Aa}{n:Nat}{v:Value}{c:List Value}(h:SR H 4 n v c){k:IntKind}{i:Int}(h0:0≤i)(h1:i<n):Ca Try.prog 23 v (.int k i)=some (Bc (C4 v) (Gy v+i.toNat*4)):=h.indexAddr Vb A4Z h0 h1
theorem Hw {H:Aa}{n:Nat}{v:Value}{c:List Value}(h:SR H 3 n v c){k:IntKind}{i:Int}(h0:0≤i)(h1:i<n):Ca Try.prog 22 v (.int k i)=some (Bc (C4 v) (Gy v+i.toNat*3)):=h.indexAddr Qq A10 h0 h1
theorem Gx {H:Aa}{n:Nat}{v:Value}{c:List Value}(h:SR H 122 n v c){k:IntKind}{i:Int}(h0:0≤i)(h1:i<n):Ca Try.prog 89 v (.int k i)=some (Bc (C4 v) (Gy v+i.toNat*122)):=h.indexAddr Ve A40 h0 h1
theorem Dp {H:Aa}{n:Nat}{v:Value}{c:List Value}(h:SR H 4 n v c){k:IntKind}{i:Int}(h0:0≤i)(h1:i<n):Ca Try.prog 97 v (.int k i)=some (Bc (C4 v) (Gy v+i.toNat*4)):=h.indexAddr Vf X7 h0 h1
theorem Lh {H:Aa}{n:Nat}{v:Value}{c:List Value}(h:SR H 4 n v c){k:IntKind}{i:Int}(h0:0≤i)(h1:i<n):Ca Try.prog 142 v (.int k i)=some (Bc (C4 v) (Gy v+i.toNat*4)):=h.indexAddr Ue A0B h0 h1
theorem N9 {H:Aa}{n:Nat}{v:Value}{c:List Value}(h:SR H 1 n v c){k:IntKind}{i:Int}(h0:0≤i)(h1:i<n):Ca Try.prog 150 v (.int k i)=some (Bc (C4 v) (Gy v+i.toNat*1)):=h.indexAddr X5 A6l h0 h1
theorem Px {H:Aa}{n:Nat}{v:Value}{c:List Value}(h:SR H 1 n v c){k:IntKind}{i:Int}(h0:0≤i)(h1:i<n):Ca Try.prog 114 v (.int k i)=some (Bc (C4 v) (Gy v+i.toNat*1)):=h.indexAddr F7 Lk h0 h1
theorem Oa {H:Aa}{n:Nat}{v:Value}{c:List Value}(h:SR H 121 n v c){k:IntKind}{i:Int}(h0:0≤i)(h1:i<n):Ca Try.prog 146 v (.int k i)=some (Bc (C4 v) (Gy v+i.toNat*121)):=h.indexAddr Pu A3P h0 h1
theorem Yb {H:Aa}{a:Option Addr}{n c:Nat}:lenV Try.prog 22 (.slice a n c) H=some (.int .i64 n):=K9 Qq
theorem A5f {H:Aa}{a:Option Addr}{n c:Nat}:lenV Try.prog 24 (.slice a n c) H=some (.int .i64 n):=K9 Va
theorem B4n {H:Aa}{a:Option Addr}{n c:Nat}:lenV Try.prog 23 (.slice a n c) H=some (.int .i64 n):=K9 Vb
theorem B7C {H:Aa}{a:Option Addr}{n c:Nat}:lenV Try.prog 42 (.slice a n c) H=some (.int .i64 n):=K9 Vc
theorem B7D {H:Aa}{a:Option Addr}{n c:Nat}:lenV Try.prog 71 (.slice a n c) H=some (.int .i64 n):=K9 Vd
theorem A7Z {H:Aa}{a:Option Addr}{n c:Nat}:lenV Try.prog 31 (.slice a n c) H=some (.int .i64 n):=K9 Lj
theorem B58 {H:Aa}{a:Option Addr}{n c:Nat}:lenV Try.prog 89 (.slice a n c) H=some (.int .i64 n):=K9 Ve
theorem B59 {H:Aa}{a:Option Addr}{n c:Nat}:lenV Try.prog 97 (.slice a n c) H=some (.int .i64 n):=K9 Vf
theorem B3d {H:Aa}{a:Option Addr}{n c:Nat}:lenV Try.prog 142 (.slice a n c) H=some (.int .i64 n):=K9 Ue
theorem B6a {H:Aa}{a:Option Addr}{n c:Nat}:lenV Try.prog 150 (.slice a n c) H=some (.int .i64 n):=K9 X5
theorem A6v {H:Aa}{a:Option Addr}{n c:Nat}:lenV Try.prog 114 (.slice a n c) H=some (.int .i64 n):=K9 F7
theorem Am {H H':Aa}{s n:Nat}{v:Value}{c:List Value}(h:SR H s n v c):lenV Try.prog 22 v H'=some (.int .i64 n):=h.lenV Qq
theorem Ah {H H':Aa}{s n:Nat}{v:Value}{c:List Value}(h:SR H s n v c):lenV Try.prog 24 v H'=some (.int .i64 n):=h.lenV Va
theorem Bj {H H':Aa}{s n:Nat}{v:Value}{c:List Value}(h:SR H s n v c):lenV Try.prog 23 v H'=some (.int .i64 n):=h.lenV Vb
theorem J6 {H H':Aa}{s n:Nat}{v:Value}{c:List Value}(h:SR H s n v c):lenV Try.prog 42 v H'=some (.int .i64 n):=h.lenV Vc
theorem En {H H':Aa}{s n:Nat}{v:Value}{c:List Value}(h:SR H s n v c):lenV Try.prog 71 v H'=some (.int .i64 n):=h.lenV Vd
theorem Bd {H H':Aa}{s n:Nat}{v:Value}{c:List Value}(h:SR H s n v c):lenV Try.prog 31 v H'=some (.int .i64 n):=h.lenV Lj
theorem Jh {H H':Aa}{s n:Nat}{v:Value}{c:List Value}(h:SR H s n v c):lenV Try.prog 89 v H'=some (.int .i64 n):=h.lenV Ve
theorem Du {H H':Aa}{s n:Nat}{v:Value}{c:List Value}(h:SR H s n v c):lenV Try.prog 97 v H'=some (.int .i64 n):=h.lenV Vf
theorem Ob {H H':Aa}{s n:Nat}{v:Value}{c:List Value}(h:SR H s n v c):lenV Try.prog 142 v H'=some (.int .i64 n):=h.lenV Ue
theorem Cs {H H':Aa}{s n:Nat}{v:Value}{c:List Value}(h:SR H s n v c):lenV Try.prog 150 v H'=some (.int .i64 n):=h.lenV X5
theorem Bx {H H':Aa}{s n:Nat}{v:Value}{c:List Value}(h:SR H s n v c):lenV Try.prog 114 v H'=some (.int .i64 n):=h.lenV F7
theorem B6b {x y:Operand}{a0 b0:Int}{a1 b1:Int}:Fj Try.prog .eql 28 x y (.agg ⟨[.int .i64 a0,.int .i64 a1]⟩) (.agg ⟨[.int .i64 b0,.int .i64 b1]⟩)=some (.bool (decide (a0=b0) && (decide (a1=b1) && (true))))∧Fj Try.prog .neq 28 x y (.agg ⟨[.int .i64 a0,.int .i64 a1]⟩) (.agg ⟨[.int .i64 b0,.int .i64 b1]⟩)=some (.bool !(decide (a0=b0) && (decide (a1=b1) && (true)))):=A9k A6j (by kernel_rfl) (by kernel_rfl) (by simp[dflat,flat]) (by simp[dflat,flat]) (by rw[(show A1u fs28=[(3,0),(3,1)] by kernel_rfl),A2X (a:=a0) (b:=b0) ag3 A3N rfl rfl,A2X (a:=a1) (b:=b1) ag3 A3N rfl rfl,A9j];simp only[Option.bind_some,A9l,A7c,Bool.decide_eq_true])
theorem B7E {parts:List (Nat×Value)}:Ez Try.prog 28 parts=(J0 [(0,1),(1,1)] ((.agg ([.int .i64 0,.int .i64 0]:List Value).toArray):Value).cells.toList parts).map fun c=>.agg c.toArray:=Jc B2l (by kernel_rfl) A6j (by kernel_rfl)
theorem B7F {parts:List (Nat×Value)}:Ez Try.prog 85 parts=(J0 [(0,1)] ((.agg ([.int .u64 0]:List Value).toArray):Value).cells.toList parts).map fun c=>.agg c.toArray:=Jc B7s (by kernel_rfl) B26 (by kernel_rfl)
theorem B7G {parts:List (Nat×Value)}:Ez Try.prog 78 parts=(J0 [(0,1),(1,1),(2,1)] ((.agg ([.int .i64 0,.int .i64 0,.int .i64 0]:List Value).toArray):Value).cells.toList parts).map fun c=>.agg c.toArray:=Jc B2m (by kernel_rfl) A6k (by kernel_rfl)
theorem B7H {parts:List (Nat×Value)}:Ez Try.prog 76 parts=(J0 [(0,1),(1,1),(2,1),(3,1)] ((.agg ([.int .i64 0,.int .i64 0,.int .i64 0,.int .i64 0]:List Value).toArray):Value).cells.toList parts).map fun c=>.agg c.toArray:=Jc B2n (by kernel_rfl) A3O (by kernel_rfl)
theorem B7I {parts:List (Nat×Value)}:Ez Try.prog 30 parts=(J0 [(0,1),(1,1),(2,1),(3,2),(5,1)] ((.agg ([.int .i64 0,.int .i64 0,.int .i64 0,.int .i64 0,.int .i64 0] ++ [.bool false]:List Value).toArray):Value).cells.toList parts).map fun c=>.agg c.toArray:=Jc B2k (by kernel_rfl) A0A (by kernel_rfl)
theorem B7J {parts:List (Nat×Value)}:Ez Try.prog 61 parts=(J0 [(0,1),(1,1)] ((.agg ([.slice none 0 0,.slice none 0 0]:List Value).toArray):Value).cells.toList parts).map fun c=>.agg c.toArray:=Jc B5H (by kernel_rfl) B0i (by kernel_rfl)
theorem B7K {parts:List (Nat×Value)}:Ez Try.prog 91 parts=(J0 [(0,3),(3,1)] ((.agg ([.slice none 0 0,.slice none 0 0,.slice none 0 0,.slice none 0 0]:List Value).toArray):Value).cells.toList parts).map fun c=>.agg c.toArray:=Jc B5I (by kernel_rfl) B0j (by kernel_rfl)
theorem B6c {parts:List (Nat×Value)}:Ez Try.prog 101 parts=(J0 [(0,1),(1,1),(2,1),(3,1)] ((.agg ([.int .i64 0,.int .i64 0,.int .i64 0,.int .i64 0]:List Value).toArray):Value).cells.toList parts).map fun c=>.agg c.toArray:=Jc A6m (by kernel_rfl) Rg (by kernel_rfl)
theorem B7L {parts:List (Nat×Value)}:Ez Try.prog 99 parts=(J0 [(0,121),(121,1)] ((.agg (zs 121 ++ [.slice none 0 0]:List Value).toArray):Value).cells.toList parts).map fun c=>.agg c.toArray:=Jc B2o (by kernel_rfl) B0k (by kernel_rfl)
theorem B6d {parts:List (Nat×Value)}:Ez Try.prog 144 parts=(J0 [(0,1),(1,1),(2,1),(3,1)] ((.agg ([.int .i64 0,.int .i64 0,.int .i64 0,.int .i64 0]:List Value).toArray):Value).cells.toList parts).map fun c=>.agg c.toArray:=Jc A6n (by kernel_rfl) X6 (by kernel_rfl)
theorem B4o {x0:Value}(h0:one x0):Ez Try.prog 85 [(0,x0)]=some (.agg ⟨[x0]⟩):=by rw[B7F];rw[Dt rfl h0 (by simp[*,Dv,Bq,Value.cells])];simp[H5,splice,Dv,Value.cells,List.drop_append, *]
theorem A5g {x0:Value}{x1:Value}{x2:Value}(h0:one x0)(h1:one x1)(h2:one x2):Ez Try.prog 78 [(0,x0),(1,x1),(2,x2)]=some (.agg ⟨[x0,x1,x2]⟩):=by rw[B7G];rw[Dt rfl h0 (by simp[*,Dv,Bq,Value.cells])];rw[Dt rfl h1 (by simp[*,Dv,Bq,Value.cells])];rw[Dt rfl h2 (by simp[*,Dv,Bq,Value.cells])];simp[H5,splice,Dv,Value.cells,List.drop_append, *]
theorem A17 {x0:Value}{x1:Value}{x2:Value}{x3:Value}(h0:one x0)(h1:one x1)(h2:one x2)(h3:one x3):Ez Try.prog 76 [(0,x0),(1,x1),(2,x2),(3,x3)]=some (.agg ⟨[x0,x1,x2,x3]⟩):=by rw[B7H];rw[Dt rfl h0 (by simp[*,Dv,Bq,Value.cells])];rw[Dt rfl h1 (by simp[*,Dv,Bq,Value.cells])];rw[Dt rfl h2 (by simp[*,Dv,Bq,Value.cells])];rw[Dt rfl h3 (by simp[*,Dv,Bq,Value.cells])];simp[H5,splice,Dv,Value.cells,List.drop_append, *]
theorem A5h {x0:Value}{x1:Value}{x2:Value}(h0:one x0)(h1:one x1)(h2:one x2):Ez Try.prog 30 [(0,x0),(1,x1),(2,x2)]=some (.agg ⟨[x0,x1,x2,.int .i64 0,.int .i64 0,.bool false]⟩):=by rw[B7I];rw[Dt rfl h0 (by simp[*,Dv,Bq,Value.cells])];rw[Dt rfl h1 (by simp[*,Dv,Bq,Value.cells])];rw[Dt rfl h2 (by simp[*,Dv,Bq,Value.cells])];simp[H5,splice,Dv,Value.cells,List.drop_append, *]
theorem Su {x0:Value}{x1:Value}(h0:one x0)(h1:one x1):Ez Try.prog 28 [(0,x0),(1,x1)]=some (.agg ⟨[x0,x1]⟩):=by rw[B7E];rw[Dt rfl h0 (by simp[*,Dv,Bq,Value.cells])];rw[Dt rfl h1 (by simp[*,Dv,Bq,Value.cells])];simp[H5,splice,Dv,Value.cells,List.drop_append, *]
theorem B0w {x0:Value}{x1:Value}(h0:one x0)(h1:one x1):Ez Try.prog 61 [(0,x0),(1,x1)]=some (.agg ⟨[x0,x1]⟩):=by rw[B7J];rw[Dt rfl h0 (by simp[*,Dv,Bq,Value.cells])];rw[Dt rfl h1 (by simp[*,Dv,Bq,Value.cells])];simp[H5,splice,Dv,Value.cells,List.drop_append, *]
theorem B4p {x0:List Value}(h0:x0.length=3):Ez Try.prog 91 [(0,.agg ⟨x0⟩)]=some (.agg ⟨x0 ++ [.slice none 0 0]⟩):=by rw[B7K];rw[Zu rfl h0 (by simp[*,Dv,Bq,Value.cells])];simp[H5,splice,Dv,Value.cells,List.drop_append, *]
theorem B2v {x0:Value}(h0:one x0):Ez Try.prog 101 [(0,x0)]=some (.agg ⟨[x0,.int .i64 0,.int .i64 0,.int .i64 0]⟩):=by rw[B6c];rw[Dt rfl h0 (by simp[*,Dv,Bq,Value.cells])];simp[H5,splice,Dv,Value.cells,List.drop_append, *]
theorem B0x {x0:List Value}{x1:Value}(h0:x0.length=121)(h1:one x1):Ez Try.prog 99 [(0,.agg ⟨x0⟩),(1,x1)]=some (.agg ⟨x0 ++ [x1]⟩):=by rw[B7L];rw[Zu rfl h0 (by simp[*,Dv,Bq,Value.cells])];rw[Dt rfl h1 (by simp[*,Dv,Bq,Value.cells])];simp[H5,splice,Dv,Value.cells,List.drop_append, *]
theorem Qr {x0:Value}{x1:Value}{x2:Value}{x3:Value}(h0:one x0)(h1:one x1)(h2:one x2)(h3:one x3):Ez Try.prog 144 [(0,x0),(1,x1),(2,x2),(3,x3)]=some (.agg ⟨[x0,x1,x2,x3]⟩):=by rw[B6d];rw[Dt rfl h0 (by simp[*,Dv,Bq,Value.cells])];rw[Dt rfl h1 (by simp[*,Dv,Bq,Value.cells])];rw[Dt rfl h2 (by simp[*,Dv,Bq,Value.cells])];rw[Dt rfl h3 (by simp[*,Dv,Bq,Value.cells])];simp[H5,splice,Dv,Value.cells,List.drop_append, *]
theorem B4q {H:Aa}{x0:Value}{x1:Value}(h0:one x0)(h1:one x1):Cj Try.prog 31 2 [(0,x0),(1,x1)] H=some (.slice (some ⟨H.n,0,none⟩) 2 2,H.upd (H.n+1) H.n (.cells ([x0,x1]) 3 .ex)):=C7 Lj sz3 zr3 (by kernel_rfl) (by kernel_rfl) (by decide) (by decide) rfl (by simp[Hc h0,Hc h1,E9])
theorem B4r {H:Aa}{x0:List Value}(h0:x0.length=6):Cj Try.prog 24 1 [(0,.agg ⟨x0⟩)] H=some (.slice (some ⟨H.n,0,none⟩) 1 1,H.upd (H.n+1) H.n (.cells (x0) 30 .ex)):=C7 Va A4X B2k (by kernel_rfl) (by kernel_rfl) (by decide) (by decide) rfl (by simp[Jd h0,E9])
theorem B4s {H:Aa}{x0:Value}{x1:Value}{x2:Value}{x3:Value}(h0:one x0)(h1:one x1)(h2:one x2)(h3:one x3):Cj Try.prog 31 4 [(0,x0),(1,x1),(2,x2),(3,x3)] H=some (.slice (some ⟨H.n,0,none⟩) 4 4,H.upd (H.n+1) H.n (.cells ([x0,x1,x2,x3]) 3 .ex)):=C7 Lj sz3 zr3 (by kernel_rfl) (by kernel_rfl) (by decide) (by decide) rfl (by simp[Hc h0,Hc h1,Hc h2,Hc h3,E9])
theorem B0y {H:Aa}{x0:Value}{x1:Value}{x2:Value}(h0:one x0)(h1:one x1)(h2:one x2):Cj Try.prog 31 3 [(0,x0),(1,x1),(2,x2)] H=some (.slice (some ⟨H.n,0,none⟩) 3 3,H.upd (H.n+1) H.n (.cells ([x0,x1,x2]) 3 .ex)):=C7 Lj sz3 zr3 (by kernel_rfl) (by kernel_rfl) (by decide) (by decide) rfl (by simp[Hc h0,Hc h1,Hc h2,E9])
theorem B0z {H:Aa}{x0:Value}(h0:one x0):Cj Try.prog 31 1 [(0,x0)] H=some (.slice (some ⟨H.n,0,none⟩) 1 1,H.upd (H.n+1) H.n (.cells ([x0]) 3 .ex)):=C7 Lj sz3 zr3 (by kernel_rfl) (by kernel_rfl) (by decide) (by decide) rfl (by simp[Hc h0,E9])
theorem B4t {H:Aa}{x0:List Value}(h0:x0.length=3):Cj Try.prog 22 1 [(0,.agg ⟨x0⟩)] H=some (.slice (some ⟨H.n,0,none⟩) 1 1,H.upd (H.n+1) H.n (.cells (x0) 78 .ex)):=C7 Qq A10 B2m (by kernel_rfl) (by kernel_rfl) (by decide) (by decide) rfl (by simp[Jd h0,E9])
theorem B4u {H:Aa}{x0:List Value}(h0:x0.length=4):Cj Try.prog 23 1 [(0,.agg ⟨x0⟩)] H=some (.slice (some ⟨H.n,0,none⟩) 1 1,H.upd (H.n+1) H.n (.cells (x0) 76 .ex)):=C7 Vb A4Z B2n (by kernel_rfl) (by kernel_rfl) (by decide) (by decide) rfl (by simp[Jd h0,E9])
theorem B4v {H:Aa}{x0:List Value}(h0:x0.length=2):Cj Try.prog 42 1 [(0,.agg ⟨x0⟩)] H=some (.slice (some ⟨H.n,0,none⟩) 1 1,H.upd (H.n+1) H.n (.cells (x0) 28 .ex)):=C7 Vc A4Y B2l (by kernel_rfl) (by kernel_rfl) (by decide) (by decide) rfl (by simp[Jd h0,E9])
theorem B2w {H:Aa}{x0:Value}{x1:Value}(h0:one x0)(h1:one x1):Cj Try.prog 150 2 [(0,x0),(1,x1)] H=some (.slice (some ⟨H.n,0,none⟩) 2 2,H.upd (H.n+1) H.n (.cells ([x0,x1]) 114 .ex)):=C7 X5 A6l B28 (by kernel_rfl) (by kernel_rfl) (by decide) (by decide) rfl (by simp[Hc h0,Hc h1,E9])
theorem B4w {H:Aa}{x0:Value}(h0:one x0):Cj Try.prog 71 1 [(0,x0)] H=some (.slice (some ⟨H.n,0,none⟩) 1 1,H.upd (H.n+1) H.n (.cells ([x0]) 31 .ex)):=C7 Vd B0l B5K (by kernel_rfl) (by kernel_rfl) (by decide) (by decide) rfl (by simp[Hc h0,E9])
theorem B4x {H:Aa}{x0:List Value}(h0:x0.length=122):Cj Try.prog 89 1 [(0,.agg ⟨x0⟩)] H=some (.slice (some ⟨H.n,0,none⟩) 1 1,H.upd (H.n+1) H.n (.cells (x0) 99 .ex)):=C7 Ve A40 B2o (by kernel_rfl) (by kernel_rfl) (by decide) (by decide) rfl (by simp[Jd h0,E9])
theorem B2x {H:Aa}{x0:List Value}(h0:x0.length=121):Cj Try.prog 146 1 [(0,.agg ⟨x0⟩)] H=some (.slice (some ⟨H.n,0,none⟩) 1 1,H.upd (H.n+1) H.n (.cells (x0) 96 .ex)):=C7 Pu A3P B2p (by kernel_rfl) (by kernel_rfl) (by decide) (by decide) rfl (by simp[Jd h0,E9])
theorem B4y {H:Aa}  :Cj Try.prog 31 0 [] H=some (.slice (some ⟨H.n,0,none⟩) 0 0,H.upd (H.n+1) H.n (.cells ([]) 3 .ex)):=C7 Lj sz3 zr3 (by kernel_rfl) (by kernel_rfl) (by decide) (by decide) rfl (by simp[E9])
theorem B4z {H:Aa}{x0:List Value}(h0:x0.length=4):Cj Try.prog 97 1 [(0,.agg ⟨x0⟩)] H=some (.slice (some ⟨H.n,0,none⟩) 1 1,H.upd (H.n+1) H.n (.cells (x0) 101 .ex)):=C7 Vf X7 A6m (by kernel_rfl) (by kernel_rfl) (by decide) (by decide) rfl (by simp[Jd h0,E9])
theorem A6w {H:Aa}{x0:Value}(h0:one x0):Cj Try.prog 114 1 [(0,x0)] H=some (.slice (some ⟨H.n,0,none⟩) 1 1,H.upd (H.n+1) H.n (.cells ([x0]) 119 .ex)):=C7 F7 Lk Vg (by kernel_rfl) (by kernel_rfl) (by decide) (by decide) rfl (by simp[Hc h0,E9])
theorem B2y {H:Aa}  :Cj Try.prog 146 0 [] H=some (.slice (some ⟨H.n,0,none⟩) 0 0,H.upd (H.n+1) H.n (.cells ([]) 96 .ex)):=C7 Pu A3P B2p (by kernel_rfl) (by kernel_rfl) (by decide) (by decide) rfl (by simp[E9])
theorem B2z {H:Aa}{x0:List Value}{x1:List Value}(h0:x0.length=4)(h1:x1.length=4):Cj Try.prog 142 2 [(0,.agg ⟨x0⟩),(1,.agg ⟨x1⟩)] H=some (.slice (some ⟨H.n,0,none⟩) 2 2,H.upd (H.n+1) H.n (.cells (x0 ++ x1) 144 .ex)):=C7 Ue A0B A6n (by kernel_rfl) (by kernel_rfl) (by decide) (by decide) rfl (by simp[Jd h0,Jd h1,E9])
theorem B2A {H:Aa}{x0:List Value}(h0:x0.length=4):Cj Try.prog 142 1 [(0,.agg ⟨x0⟩)] H=some (.slice (some ⟨H.n,0,none⟩) 1 1,H.upd (H.n+1) H.n (.cells (x0) 144 .ex)):=C7 Ue A0B A6n (by kernel_rfl) (by kernel_rfl) (by decide) (by decide) rfl (by simp[Jd h0,E9])
theorem B6e {H:Aa}{k k':IntKind}{n m:Int}(h1:0≤n)(h2:n≤m)(h3:m≤1099511627776)(h4:8*m≤1099511627776):Fe Try.prog 31 (.int k n) (.int k' m) H=some (.slice (some ⟨H.n,0,none⟩) n.toNat m.toNat,H.upd (H.n+1) H.n (.cells (List.replicate m.toNat (.int .i64 0)) 3 .ex)):=(A1r Lj sz3 zr3 by3 (by kernel_rfl) (by kernel_rfl) (by decide) h1 h2 h3 h4).trans (by rw[show (.int .i64 0:Value).cells.toList=[.int .i64 0] from rfl,A69])
theorem B7M {H:Aa}{n m:Nat}{v x:Value}{c new:List Value}{g:Option Nat}(G:GS H 6 n v c g)(S:SR H 6 m x new)(hm:0<m)(h1:n+m≤1099511627776)(h2:(n+m)*48≤1099511627776):Cg Try.prog #[24,24] [v,x] H=some (.slice (some ⟨H.n,0,none⟩) (n+m) (n+m),H.upd (H.n+1) H.n (.cells (c ++ new) 30 (.gr (g.getD H.n) 6 true))):=(D7 Va Va A4X S).trans (GS.push Va A4X B64 B2k (by kernel_rfl) (by kernel_rfl) (by decide) G S.len hm h1 h2)
theorem B7N {H:Aa}{n m:Nat}{v x:Value}{c new:List Value}{g:Option Nat}(G:GS H 3 n v c g)(S:SR H 3 m x new)(hm:0<m)(h1:n+m≤1099511627776)(h2:(n+m)*24≤1099511627776):Cg Try.prog #[22,22] [v,x] H=some (.slice (some ⟨H.n,0,none⟩) (n+m) (n+m),H.upd (H.n+1) H.n (.cells (c ++ new) 78 (.gr (g.getD H.n) 3 true))):=(D7 Qq Qq A10 S).trans (GS.push Qq A10 B66 B2m (by kernel_rfl) (by kernel_rfl) (by decide) G S.len hm h1 h2)
theorem B7O {H:Aa}{n m:Nat}{v x:Value}{c new:List Value}{g:Option Nat}(G:GS H 4 n v c g)(S:SR H 4 m x new)(hm:0<m)(h1:n+m≤1099511627776)(h2:(n+m)*32≤1099511627776):Cg Try.prog #[23,23] [v,x] H=some (.slice (some ⟨H.n,0,none⟩) (n+m) (n+m),H.upd (H.n+1) H.n (.cells (c ++ new) 76 (.gr (g.getD H.n) 4 true))):=(D7 Vb Vb A4Z S).trans (GS.push Vb A4Z B67 B2n (by kernel_rfl) (by kernel_rfl) (by decide) G S.len hm h1 h2)
theorem B6f {H:Aa}{n m:Nat}{v x:Value}{c new:List Value}{g:Option Nat}(G:GS H 1 n v c g)(S:SR H 1 m x new)(hm:0<m)(h1:n+m≤1099511627776)(h2:(n+m)*8≤1099511627776):Cg Try.prog #[31,31] [v,x] H=some (.slice (some ⟨H.n,0,none⟩) (n+m) (n+m),H.upd (H.n+1) H.n (.cells (c ++ new) 3 (.gr (g.getD H.n) 1 true))):=(D7 Lj Lj sz3 S).trans (GS.push Lj sz3 by3 zr3 (by kernel_rfl) (by kernel_rfl) (by decide) G S.len hm h1 h2)
theorem B7P {H:Aa}{n m:Nat}{v x:Value}{c new:List Value}{g:Option Nat}(G:GS H 2 n v c g)(S:SR H 2 m x new)(hm:0<m)(h1:n+m≤1099511627776)(h2:(n+m)*16≤1099511627776):Cg Try.prog #[42,42] [v,x] H=some (.slice (some ⟨H.n,0,none⟩) (n+m) (n+m),H.upd (H.n+1) H.n (.cells (c ++ new) 28 (.gr (g.getD H.n) 2 true))):=(D7 Vc Vc A4Y S).trans (GS.push Vc A4Y B65 B2l (by kernel_rfl) (by kernel_rfl) (by decide) G S.len hm h1 h2)
theorem B3e {H:Aa}{n m:Nat}{v x:Value}{c new:List Value}{g:Option Nat}(G:GS H 1 n v c g)(S:SR H 1 m x new)(hm:0<m)(h1:n+m≤1099511627776)(h2:(n+m)*8≤1099511627776):Cg Try.prog #[114,114] [v,x] H=some (.slice (some ⟨H.n,0,none⟩) (n+m) (n+m),H.upd (H.n+1) H.n (.cells (c ++ new) 119 (.gr (g.getD H.n) 1 true))):=(D7 F7 F7 Lk S).trans (GS.push F7 Lk X8 Vg (by kernel_rfl) (by kernel_rfl) (by decide) G S.len hm h1 h2)
theorem B7Q {H:Aa}{n m:Nat}{v x:Value}{c new:List Value}{g:Option Nat}(G:GS H 1 n v c g)(S:SR H 1 m x new)(hm:0<m)(h1:n+m≤1099511627776)(h2:(n+m)*24≤1099511627776):Cg Try.prog #[71,71] [v,x] H=some (.slice (some ⟨H.n,0,none⟩) (n+m) (n+m),H.upd (H.n+1) H.n (.cells (c ++ new) 31 (.gr (g.getD H.n) 1 true))):=(D7 Vd Vd B0l S).trans (GS.push Vd B0l B68 B5K (by kernel_rfl) (by kernel_rfl) (by decide) G S.len hm h1 h2)
theorem B7R {H:Aa}{n m:Nat}{v x:Value}{c new:List Value}{g:Option Nat}(G:GS H 122 n v c g)(S:SR H 122 m x new)(hm:0<m)(h1:n+m≤1099511627776)(h2:(n+m)*992≤1099511627776):Cg Try.prog #[89,89] [v,x] H=some (.slice (some ⟨H.n,0,none⟩) (n+m) (n+m),H.upd (H.n+1) H.n (.cells (c ++ new) 99 (.gr (g.getD H.n) 122 true))):=(D7 Ve Ve A40 S).trans (GS.push Ve A40 B69 B2o (by kernel_rfl) (by kernel_rfl) (by decide) G S.len hm h1 h2)
theorem B3f {H:Aa}{n m:Nat}{v x:Value}{c new:List Value}{g:Option Nat}(G:GS H 121 n v c g)(S:SR H 121 m x new)(hm:0<m)(h1:n+m≤1099511627776)(h2:(n+m)*968≤1099511627776):Cg Try.prog #[146,146] [v,x] H=some (.slice (some ⟨H.n,0,none⟩) (n+m) (n+m),H.upd (H.n+1) H.n (.cells (c ++ new) 96 (.gr (g.getD H.n) 121 true))):=(D7 Pu Pu A3P S).trans (GS.push Pu A3P B7a B2p (by kernel_rfl) (by kernel_rfl) (by decide) G S.len hm h1 h2)
theorem B7S {H:Aa}{n m:Nat}{v x:Value}{c new:List Value}{g:Option Nat}(G:GS H 4 n v c g)(S:SR H 4 m x new)(hm:0<m)(h1:n+m≤1099511627776)(h2:(n+m)*32≤1099511627776):Cg Try.prog #[97,97] [v,x] H=some (.slice (some ⟨H.n,0,none⟩) (n+m) (n+m),H.upd (H.n+1) H.n (.cells (c ++ new) 101 (.gr (g.getD H.n) 4 true))):=(D7 Vf Vf X7 S).trans (GS.push Vf X7 B5A A6m (by kernel_rfl) (by kernel_rfl) (by decide) G S.len hm h1 h2)
theorem B6g {H:Aa}{n:Nat}{v x:Value}{c new:List Value}{g:Option Nat}(G:GS H 1 n v c g)(S:SR H 1 0 x new):Cg Try.prog #[31,31] [v,x] H=some (v,H):=(D7 Lj Lj sz3 S).trans (A5O Lj sz3 by3 zr3 (by kernel_rfl) (by kernel_rfl) (by decide) G (by simpa using S.len))
theorem B4A {H:Aa}{n:Nat}{v x:Value}{c new:List Value}{g:Option Nat}(G:GS H 1 n v c g)(S:SR H 1 0 x new):Cg Try.prog #[114,114] [v,x] H=some (v,H):=(D7 F7 F7 Lk S).trans (A5O F7 Lk X8 Vg (by kernel_rfl) (by kernel_rfl) (by decide) G (by simpa using S.len))
theorem B7T {H:Aa}{n m:Nat}{v x:Value}{c new:List Value}{g:Option Nat}{K:Value→Aa→Prop}(G:GS H 6 n v c g)(S:SR H 6 m x new)(hm:0<m)(h1:n+m≤1099511627776)(h2:(n+m)*48≤1099511627776)(ht:C1 H)(k:GS (H.upd (H.n+1) H.n (.cells (c ++ new) 30 (.gr (g.getD H.n) 6 true))) 6 (n+m) (.slice (some ⟨H.n,0,none⟩) (n+m) (n+m)) (c ++ new) (some (g.getD H.n))→K (.slice (some ⟨H.n,0,none⟩) (n+m) (n+m)) (H.upd (H.n+1) H.n (.cells (c ++ new) 30 (.gr (g.getD H.n) 6 true)))):oB (Cg Try.prog #[24,24] [v,x] H) K:=by rw[B7M G S hm h1 h2];exact k (GS.pushed ht G S.len)
theorem B7U {H:Aa}{n m:Nat}{v x:Value}{c new:List Value}{g:Option Nat}{K:Value→Aa→Prop}(G:GS H 3 n v c g)(S:SR H 3 m x new)(hm:0<m)(h1:n+m≤1099511627776)(h2:(n+m)*24≤1099511627776)(ht:C1 H)(k:GS (H.upd (H.n+1) H.n (.cells (c ++ new) 78 (.gr (g.getD H.n) 3 true))) 3 (n+m) (.slice (some ⟨H.n,0,none⟩) (n+m) (n+m)) (c ++ new) (some (g.getD H.n))→K (.slice (some ⟨H.n,0,none⟩) (n+m) (n+m)) (H.upd (H.n+1) H.n (.cells (c ++ new) 78 (.gr (g.getD H.n) 3 true)))):oB (Cg Try.prog #[22,22] [v,x] H) K:=by rw[B7N G S hm h1 h2];exact k (GS.pushed ht G S.len)
theorem B7V {H:Aa}{n m:Nat}{v x:Value}{c new:List Value}{g:Option Nat}{K:Value→Aa→Prop}(G:GS H 4 n v c g)(S:SR H 4 m x new)(hm:0<m)(h1:n+m≤1099511627776)(h2:(n+m)*32≤1099511627776)(ht:C1 H)(k:GS (H.upd (H.n+1) H.n (.cells (c ++ new) 76 (.gr (g.getD H.n) 4 true))) 4 (n+m) (.slice (some ⟨H.n,0,none⟩) (n+m) (n+m)) (c ++ new) (some (g.getD H.n))→K (.slice (some ⟨H.n,0,none⟩) (n+m) (n+m)) (H.upd (H.n+1) H.n (.cells (c ++ new) 76 (.gr (g.getD H.n) 4 true)))):oB (Cg Try.prog #[23,23] [v,x] H) K:=by rw[B7O G S hm h1 h2];exact k (GS.pushed ht G S.len)
theorem B6h {H:Aa}{n m:Nat}{v x:Value}{c new:List Value}{g:Option Nat}{K:Value→Aa→Prop}(G:GS H 1 n v c g)(S:SR H 1 m x new)(hm:0<m)(h1:n+m≤1099511627776)(h2:(n+m)*8≤1099511627776)(ht:C1 H)(k:GS (H.upd (H.n+1) H.n (.cells (c ++ new) 3 (.gr (g.getD H.n) 1 true))) 1 (n+m) (.slice (some ⟨H.n,0,none⟩) (n+m) (n+m)) (c ++ new) (some (g.getD H.n))→K (.slice (some ⟨H.n,0,none⟩) (n+m) (n+m)) (H.upd (H.n+1) H.n (.cells (c ++ new) 3 (.gr (g.getD H.n) 1 true)))):oB (Cg Try.prog #[31,31] [v,x] H) K:=by rw[B6f G S hm h1 h2];exact k (GS.pushed ht G S.len)
theorem B7W {H:Aa}{n m:Nat}{v x:Value}{c new:List Value}{g:Option Nat}{K:Value→Aa→Prop}(G:GS H 2 n v c g)(S:SR H 2 m x new)(hm:0<m)(h1:n+m≤1099511627776)(h2:(n+m)*16≤1099511627776)(ht:C1 H)(k:GS (H.upd (H.n+1) H.n (.cells (c ++ new) 28 (.gr (g.getD H.n) 2 true))) 2 (n+m) (.slice (some ⟨H.n,0,none⟩) (n+m) (n+m)) (c ++ new) (some (g.getD H.n))→K (.slice (some ⟨H.n,0,none⟩) (n+m) (n+m)) (H.upd (H.n+1) H.n (.cells (c ++ new) 28 (.gr (g.getD H.n) 2 true)))):oB (Cg Try.prog #[42,42] [v,x] H) K:=by rw[B7P G S hm h1 h2];exact k (GS.pushed ht G S.len)
theorem B0A {H:Aa}{n m:Nat}{v x:Value}{c new:List Value}{g:Option Nat}{K:Value→Aa→Prop}(G:GS H 1 n v c g)(S:SR H 1 m x new)(hm:0<m)(h1:n+m≤1099511627776)(h2:(n+m)*8≤1099511627776)(ht:C1 H)(k:GS (H.upd (H.n+1) H.n (.cells (c ++ new) 119 (.gr (g.getD H.n) 1 true))) 1 (n+m) (.slice (some ⟨H.n,0,none⟩) (n+m) (n+m)) (c ++ new) (some (g.getD H.n))→K (.slice (some ⟨H.n,0,none⟩) (n+m) (n+m)) (H.upd (H.n+1) H.n (.cells (c ++ new) 119 (.gr (g.getD H.n) 1 true)))):oB (Cg Try.prog #[114,114] [v,x] H) K:=by rw[B3e G S hm h1 h2];exact k (GS.pushed ht G S.len)
theorem B7X {H:Aa}{n m:Nat}{v x:Value}{c new:List Value}{g:Option Nat}{K:Value→Aa→Prop}(G:GS H 1 n v c g)(S:SR H 1 m x new)(hm:0<m)(h1:n+m≤1099511627776)(h2:(n+m)*24≤1099511627776)(ht:C1 H)(k:GS (H.upd (H.n+1) H.n (.cells (c ++ new) 31 (.gr (g.getD H.n) 1 true))) 1 (n+m) (.slice (some ⟨H.n,0,none⟩) (n+m) (n+m)) (c ++ new) (some (g.getD H.n))→K (.slice (some ⟨H.n,0,none⟩) (n+m) (n+m)) (H.upd (H.n+1) H.n (.cells (c ++ new) 31 (.gr (g.getD H.n) 1 true)))):oB (Cg Try.prog #[71,71] [v,x] H) K:=by rw[B7Q G S hm h1 h2];exact k (GS.pushed ht G S.len)
theorem B7Y {H:Aa}{n m:Nat}{v x:Value}{c new:List Value}{g:Option Nat}{K:Value→Aa→Prop}(G:GS H 122 n v c g)(S:SR H 122 m x new)(hm:0<m)(h1:n+m≤1099511627776)(h2:(n+m)*992≤1099511627776)(ht:C1 H)(k:GS (H.upd (H.n+1) H.n (.cells (c ++ new) 99 (.gr (g.getD H.n) 122 true))) 122 (n+m) (.slice (some ⟨H.n,0,none⟩) (n+m) (n+m)) (c ++ new) (some (g.getD H.n))→K (.slice (some ⟨H.n,0,none⟩) (n+m) (n+m)) (H.upd (H.n+1) H.n (.cells (c ++ new) 99 (.gr (g.getD H.n) 122 true)))):oB (Cg Try.prog #[89,89] [v,x] H) K:=by rw[B7R G S hm h1 h2];exact k (GS.pushed ht G S.len)
theorem B6i {H:Aa}{n m:Nat}{v x:Value}{c new:List Value}{g:Option Nat}{K:Value→Aa→Prop}(G:GS H 121 n v c g)(S:SR H 121 m x new)(hm:0<m)(h1:n+m≤1099511627776)(h2:(n+m)*968≤1099511627776)(ht:C1 H)(k:GS (H.upd (H.n+1) H.n (.cells (c ++ new) 96 (.gr (g.getD H.n) 121 true))) 121 (n+m) (.slice (some ⟨H.n,0,none⟩) (n+m) (n+m)) (c ++ new) (some (g.getD H.n))→K (.slice (some ⟨H.n,0,none⟩) (n+m) (n+m)) (H.upd (H.n+1) H.n (.cells (c ++ new) 96 (.gr (g.getD H.n) 121 true)))):oB (Cg Try.prog #[146,146] [v,x] H) K:=by rw[B3f G S hm h1 h2];exact k (GS.pushed ht G S.len)
theorem B6j {H:Aa}{n m:Nat}{v x:Value}{c new:List Value}{g:Option Nat}{K:Value→Aa→Prop}(G:GS H 4 n v c g)(S:SR H 4 m x new)(hm:0<m)(h1:n+m≤1099511627776)(h2:(n+m)*32≤1099511627776)(ht:C1 H)(k:GS (H.upd (H.n+1) H.n (.cells (c ++ new) 101 (.gr (g.getD H.n) 4 true))) 4 (n+m) (.slice (some ⟨H.n,0,none⟩) (n+m) (n+m)) (c ++ new) (some (g.getD H.n))→K (.slice (some ⟨H.n,0,none⟩) (n+m) (n+m)) (H.upd (H.n+1) H.n (.cells (c ++ new) 101 (.gr (g.getD H.n) 4 true)))):oB (Cg Try.prog #[97,97] [v,x] H) K:=by rw[B7S G S hm h1 h2];exact k (GS.pushed ht G S.len)
theorem B0B {k:IntKind}{a:Int}:Un Try.prog 3 83 (.int k a)=some (.int .u64 (IntKind.wrap .u64 a)):=Wz A3N B27
theorem B4B {k:IntKind}{a:Int}:Un Try.prog 83 3 (.int k a)=some (.int .i64 (IntKind.wrap .i64 a)):=Wz B27 A3N
def C9:=(B9p (B9p (B9p (B9p @B5Z (B9p @B4k @B6b)) (B9p @Kl (B9p @M5 @A12))) (B9p (B9p @A11 (B9p @X9 @A16)) (B9p @B7A (B9p @B7B @Ug)))) (B9p (B9p (B9p @Y1 (B9p @Uf @B4g)) (B9p @S8 (B9p @B0n @Yb))) (B9p (B9p @A5f (B9p @B7C @B7D)) (B9p @B5S (B9p @B2q @st3)))))
def Oc:=(B9p (B9p (B9p @B4o @B0B) (B9p @B0t @N8)) (B9p (B9p @S8 @B5O) (B9p @A7Z @B5U)))
def Cn:=(B9p (B9p (B9p (B9p (B9p @B5Z @A45) (B9p @Su @A5h)) (B9p (B9p @A17 @A5g) (B9p @B4t (B9p @B4u @B4r)))) (B9p (B9p (B9p @B0z @B4q) (B9p @B0y (B9p @B4s @Kl))) (B9p (B9p @Pv @M5) (B9p @Pw (B9p @Ya @X9))))) (B9p (B9p (B9p (B9p @Ri @N8) (B9p @Ug @A3Q)) (B9p (B9p @Y1 @Uf) (B9p @S8 (B9p @B0m @Yb)))) (B9p (B9p (B9p @B4n @B6e) (B9p @B7u (B9p @B7v @B7t))) (B9p (B9p @B5S @B2q) (B9p @st3 (B9p @A44 @st4))))))
def Rk:=(B9p @N8 (B9p @S8 @A7Z))
def Rl:=(B9p @B0B @B4B)
def Fa:=(B9p (B9p (B9p (B9p @A3T @B2t) (B9p @A7W @Su)) (B9p (B9p @B4v @Rj) (B9p @A7Y @A3R))) (B9p (B9p (B9p @Uf @A41) (B9p @A43 @A42)) (B9p (B9p @B58 @A3S) (B9p @B2r @A7V))))
def Io:=(B9p (B9p (B9p (B9p @B2t @A7W) (B9p @Kl @Rj)) (B9p (B9p @Uh @A6u) (B9p @B2u (B9p @A7Y @A5e)))) (B9p (B9p (B9p @A5d @Ug) (B9p @Uf (B9p @S8 @A41))) (B9p (B9p @A43 @A42) (B9p @Yb (B9p @B2r @A7V)))))
def Dx:=(B9p (B9p (B9p (B9p @A45 (B9p @B51 @B4l)) (B9p (B9p @Kl @Pv) (B9p @M5 @Rh))) (B9p (B9p (B9p @A46 @A47) (B9p @A49 @A5a)) (B9p (B9p @A5b @A5c) (B9p @A48 @B0v)))) (B9p (B9p (B9p (B9p @A7X @A16) (B9p @Ug @A3Q)) (B9p (B9p @Y1 @Uf) (B9p @S8 @B0m))) (B9p (B9p (B9p @B5P @B4h) (B9p @Yb @B4n)) (B9p (B9p @A5f @A44) (B9p @B5V @B4j)))))
def Dn:=(B9p (B9p @B2t @B2w) (B9p @Uf (B9p @A43 @B2r)))
def A5i:=@Nu
def C6:=(B9p (B9p (B9p (B9p @A45 (B9p @B50 @B0w)) (B9p @Kl (B9p @M5 @Rh))) (B9p (B9p @Pw (B9p @Ri @A14)) (B9p (B9p @B0s @A16) (B9p @N8 @Ug)))) (B9p (B9p (B9p @Y1 (B9p @S8 @B0m)) (B9p @B0n (B9p @ld4 @B5N))) (B9p (B9p @Yb (B9p @A5f @A7Z)) (B9p (B9p @B6e @st3) (B9p @A44 @B5T)))))
def K5:=(B9p (B9p (B9p @M5 @Pw) (B9p @A14 @A16)) (B9p (B9p @N8 @Y1) (B9p @S8 (B9p @B0n @A7Z))))
def Km:=(B9p (B9p (B9p @M5 @Rh) (B9p @Pw (B9p @A14 @A16))) (B9p (B9p @N8 @Y1) (B9p @S8 (B9p @B0n @A7Z))))
def J9:=@Uf
def A5j:=@Nu
def Y2:=(B9p (B9p @B4k @Su) (B9p @B0y (B9p @B4g @B2q)))
def Ea:=(B9p (B9p (B9p @B0z (B9p @B4w @M5)) (B9p (B9p @A12 @A11) (B9p @Pw @X9))) (B9p (B9p (B9p @Ri @A16) (B9p @Y1 @Uf)) (B9p (B9p @S8 @ld4) (B9p @A5f @A7Z))))
def A70:=(B9p (B9p @B4k @Su) (B9p @B4g @B2q))
def A71:=(B9p (B9p (B9p @B4l (B9p @Kl @Pv)) (B9p @A49 (B9p @A5b @A5c))) (B9p (B9p @B0v (B9p @A7X @Ug)) (B9p (B9p @A3Q @S8) (B9p @B4h @B4j))))
def A18:=(B9p @B0t (B9p @B5O @B5U))
def A3U:=@Nu
def Ka:=(B9p (B9p (B9p @B2t (B9p @A7W @B4p)) (B9p (B9p @B4x @Kl) (B9p @Rj @Ug))) (B9p (B9p (B9p @Uf @A41) (B9p @A43 @A42)) (B9p (B9p @Yb @B7x) (B9p @B2r @A7V))))
def Mj:=(B9p (B9p (B9p @A3T @A6p) (B9p @B0u @B55)) (B9p (B9p @A3R @S8) (B9p @B5Q (B9p @B59 @A3S))))
def Me:=(B9p (B9p @M5 (B9p @Rh @A15)) (B9p (B9p @A16 @Y1) (B9p @S8 @A5f)))
def A72:=(B9p (B9p @Qc (B9p @St @Uh)) (B9p @A5e (B9p @A5d @S8)))
def A73:=(B9p (B9p @Qc (B9p @St @Uh)) (B9p @A5e (B9p @A5d @S8)))
def A5k:=@Nu
def A19:=(B9p (B9p (B9p @Kl (B9p @Pv @A12)) (B9p (B9p @A11 @Rh) (B9p @Pw @Ya))) (B9p (B9p (B9p @X9 @Ri) (B9p @Ug @A3Q)) (B9p (B9p @S8 @ld4) (B9p @Yb @B4n))))
def Ko:=(B9p (B9p @Kl @A15) (B9p @Ug (B9p @A43 @Yb)))
def A5l:=@Nu
def Kp:=(B9p (B9p (B9p (B9p @B0r @A6q) (B9p @A6r @A6s)) (B9p (B9p @A6t @Rj) (B9p @Uh @B3b))) (B9p (B9p (B9p @A7Y @A5e) (B9p @A5d @A6o)) (B9p (B9p @S8 @A41) (B9p @B3d @B0q))))
def A3V:=@Nu
def Ju:=(B9p (B9p (B9p @B52 (B9p @A7W @B2x)) (B9p @Rj (B9p @Uh @A7Y))) (B9p (B9p @B29 (B9p @A41 @B0o)) (B9p (B9p @A42 @B58) (B9p @B5W @A7V))))
def Fv:=(B9p (B9p @B56 @B0p) (B9p @A6v @B6a))
def Hg:=(B9p (B9p (B9p @B4l @Kl) (B9p @A5b (B9p @A5c @B0v))) (B9p (B9p @Ug @S8) (B9p @B4h (B9p @Yb @B4j))))
def A74:=(B9p (B9p (B9p @B51 (B9p @Kl @Pv)) (B9p @A46 (B9p @A47 @A48))) (B9p (B9p @B0v (B9p @A7X @Ug)) (B9p (B9p @A3Q @S8) (B9p @B5P @B5V))))
def C2:=(B9p (B9p (B9p (B9p (B9p @A45 @B50) (B9p @Kl @Pv)) (B9p (B9p @M5 @Rh) (B9p @Pw @Ya))) (B9p (B9p (B9p @Ri @A14) (B9p @B0s @A46)) (B9p (B9p @A47 @A5a) (B9p @A48 @B0v)))) (B9p (B9p (B9p (B9p @A7X @A16) (B9p @N8 @Ug)) (B9p (B9p @A3Q @Y1) (B9p @Uf @S8))) (B9p (B9p (B9p @B0m @B0n) (B9p @ld4 @B5N)) (B9p (B9p @Yb @A5f) (B9p @A44 @B5T)))))
def A2a:=@B4y
def Dy:=(B9p (B9p (B9p (B9p (B9p @A3T @B53) (B9p @al3 @A45)) (B9p (B9p @al4 @A7W) (B9p @B2v @B0x))) (B9p (B9p (B9p @B4z @A6p) (B9p @Qc @St)) (B9p (B9p @A13 @A12) (B9p @A11 (B9p @Ya @X9))))) (B9p (B9p (B9p (B9p @Ri @B0u) (B9p @B55 @A3R)) (B9p (B9p @B5R @Uf) (B9p @S8 (B9p @ld4 @B5Q)))) (B9p (B9p (B9p @A42 @B59) (B9p @A3S @B5X)) (B9p (B9p @st3 @A44) (B9p @st4 (B9p @B7y @A7V))))))
def De:=(B9p (B9p (B9p (B9p (B9p @A3T @B54) (B9p @al3 @A45)) (B9p (B9p @A7W @Qr) (B9p @A6w @Qc))) (B9p (B9p (B9p @St @A13) (B9p @Pv @Rh)) (B9p (B9p @Ya @Ri) (B9p @A5a (B9p @A15 @Rj))))) (B9p (B9p (B9p (B9p @A6u @A7X) (B9p @A7Y @A3R)) (B9p (B9p @B0p @A3Q) (B9p @Uf @S8))) (B9p (B9p (B9p @ld4 @A41) (B9p @A43 @A42)) (B9p (B9p @A3S @B5Y) (B9p @st3 (B9p @A44 @A7V))))))
def D2:=(B9p (B9p (B9p (B9p @A3T @al3) (B9p @A6w (B9p @Qc @A13))) (B9p (B9p @Kl (B9p @Pv @A49)) (B9p @A15 (B9p @Rj @A7X)))) (B9p (B9p (B9p @A7Y @Ug) (B9p @A3Q (B9p @Uf @S8))) (B9p (B9p @A41 (B9p @A43 @A42)) (B9p @Yb (B9p @A3S @st3)))))
def M6:=(B9p @B3c (B9p @B3a @A6v))
def E5:=(B9p (B9p (B9p (B9p @B0r @B4m) (B9p @A6q (B9p @A6r @A6s))) (B9p (B9p @A6t @B3c) (B9p @B3b (B9p @B57 @A5e)))) (B9p (B9p (B9p @A5d @B0p) (B9p @B3a (B9p @A6o @B29))) (B9p (B9p @S8 (B9p @B0o @A6v)) (B9p @B3d (B9p @B0q @B2s)))))
def Ip:=(B9p (B9p @B4m (B9p @A5e @A5d)) (B9p (B9p @S8 @B0o) (B9p @st3 @B2s)))
def Yc:=@B2y
def Ye:=@A6v
def Ic:=(B9p (B9p @B4m (B9p @A5e @A5d)) (B9p @B0o (B9p @st3 @B2s)))
def Oj:=(B9p (B9p @Uh @ld4) (B9p @B0o (B9p @st4 @B2s)))
def A0D:=@Nu
def Vh:=@Nu
def A0E:=(B9p (B9p @B0r (B9p @Qr @Qc)) (B9p (B9p @St @A6o) (B9p @S8 @B0q)))
def Sx:=(B9p @B2z (B9p @A3R @S8))
def Is:=(B9p (B9p (B9p @A45 @M5) (B9p @Pw @A16)) (B9p (B9p @Y1 @S8) (B9p @B0m (B9p @A5f @A44))))
def Vi:=(B9p @B2A @A6o)
end Go.Proofs.Swa
set_option maxRecDepth 20000
set_option linter.unusedVariables false
set_option linter.unusedSimpArgs false
namespace Go.Proofs.Swa
open Go
open Nat renaming reduceAdd → nrA, reduceMul → nrM, reduceEqDiff → nrE, reduceLT → nrL
open Int renaming reduceToNat → irN
abbrev C5:Bk:=Cl Try.prog (OrC Try.prog) 0
attribute [local congr] Ja Gm I8 I9 Jb Hl Hm Hn
theorem f53 (a b c:Int)(H:Aa):∃ v H',C5 (.fn 53) #[iv a,iv b,iv c] H v H'∧v=.bool (decide (b≤a∧a≤c))∧H'=H:=by
 refine Cl.ofW Try.func53 rfl (by kernel_rfl) (by rw[Try.ntmps53];exact Nat.le_of_ble_eq_true rfl) (by kernel_rfl) ?_
 have Ab:True:=trivial
 refine Jx [0,1,2] ?_
 intro eg Aj
 simp only[Ag,Af,and_true]at Aj
 try simp only[↓pb,An,A3U,Ab,irN,nrA,nrM,nrE,reduceIte,reduceCtorEq,nrL]at Aj
 replace Ab:=Aj;clear Aj
 repeat'(first|((with_reducible refine hK _ _ fun e2 Aj=>?_);clear hK K;simp only[B5a,Ag,Af,and_true,↓pb,An,A3U,Ab,irN,nrA,nrM,nrE,reduceIte,reduceCtorEq,nrL]at Aj;clear Ab;(try clear eg);have Ab:=Aj;clear Aj;rename Bi=>eg)|((first|((with_reducible first|apply Ac|apply Al|apply Ak);(simp(disch:=try exact dA) only[Bh,A3U,Ab,irN,nrA,nrM,nrE,reduceIte,reduceCtorEq,nrL];with_reducible exact rfl))|(with_reducible first|refine Ai B5a fun K hK=>?_));try simp only[↓pb,↓pd,Bp,A3U,Ab,irN,nrA,nrM,nrE,reduceIte,reduceCtorEq,nrL])|(((with_reducible first|apply Br|apply Bt);exact rfl);(simp only[↓pb,An,A3U,Ab,irN,nrA,nrM,nrE,reduceIte,reduceCtorEq,nrL];with_reducible exact rfl);all_goals(intro hc;(first|exact C8 hc|try simp only[C0]at hc);try((with_reducible apply E3);simp only[↓pb,↓pd,Bp,A3U,hc,Ab,irN,nrA,nrM,nrE,reduceIte,reduceCtorEq,nrL])))|(with_reducible first|refine Az ?_|refine Ay ?_)|fail)
 all_goals(
  refine⟨by first|exact .inl rfl|exact .inr rfl, ?_⟩
  rw[Ec Try.results53]
  simp only[↓pb,An,A3U,Bo,Bg,Ab,irN,nrA,nrM,nrE,reduceIte,reduceCtorEq,nrL]
  repeat ((with_reducible apply Ac);(simp(disch:=try exact dA) only[Bh,A3U,Ab,irN,nrA,nrM,nrE,reduceIte,reduceCtorEq,nrL];exact rfl)))
 all_goals simp[*]
theorem f65 (a b:Int)(H:Aa):∃ v H',C5 (.fn 65) #[iv a,iv b] H v H'∧v=iv (Oq a b)∧H'=H:=by
 refine Cl.ofW Try.func65 rfl (by kernel_rfl) (by rw[Try.ntmps65];exact Nat.le_of_ble_eq_true rfl) (by kernel_rfl) ?_
 have Ab:True:=trivial
 refine Jx [0,1] ?_
 intro eg Aj
 simp only[Ag,Af,and_true]at Aj
 try simp only[↓pb,An,A5k,Ab,irN,nrA,nrM,nrE,reduceIte,reduceCtorEq,nrL]at Aj
 replace Ab:=Aj;clear Aj
 repeat'(first|((with_reducible refine hK _ _ fun e2 Aj=>?_);clear hK K;simp only[B5b,Ag,Af,and_true,↓pb,An,A5k,Ab,irN,nrA,nrM,nrE,reduceIte,reduceCtorEq,nrL]at Aj;clear Ab;(try clear eg);have Ab:=Aj;clear Aj;rename Bi=>eg)|((first|((with_reducible first|apply Ac|apply Al|apply Ak);(simp(disch:=try exact dA) only[Bh,A5k,Ab,irN,nrA,nrM,nrE,reduceIte,reduceCtorEq,nrL];with_reducible exact rfl))|(with_reducible first|refine Ai B5b fun K hK=>?_));try simp only[↓pb,↓pd,Bp,A5k,Ab,irN,nrA,nrM,nrE,reduceIte,reduceCtorEq,nrL])|((with_reducible apply Au);(simp only[↓pb,An,A5k,Ab,irN,nrA,nrM,nrE,reduceIte,reduceCtorEq,nrL];with_reducible exact rfl);all_goals(intro hc;(first|exact C8 hc|try simp only[C0]at hc)))|(with_reducible first|refine Az ?_|refine Ap ?_|refine At ?_|refine Ay ?_|apply Ad)|((with_reducible apply Ae);(focus decide))|fail)
 all_goals(
  refine⟨by first|exact .inl rfl|exact .inr rfl, ?_⟩
  rw[Ec Try.results65]
  simp only[↓pb,An,A5k,Bo,Bg,Ab,irN,nrA,nrM,nrE,reduceIte,reduceCtorEq,nrL]
  repeat ((with_reducible apply Ac);(simp(disch:=try exact dA) only[Bh,A5k,Ab,irN,nrA,nrM,nrE,reduceIte,reduceCtorEq,nrL];exact rfl)))
 all_goals simp[Oq, *]
theorem f66 (va vb vc:Value)(g:Cv)(last:Int)(a:E8)(H:Aa)(hT:C1 H)(hG:RG H va vb vc g) :
  ∃ v H',C5 (.fn 66) #[.agg ⟨[va,vb,vc]⟩,iv last,.agg ⟨Bn a⟩] H v H'∧v=iv (He g last a)∧Fr H.n [] H H':=by
 refine Cl.ofW Try.func66 rfl (by kernel_rfl) (by rw[Try.ntmps66];exact Nat.le_of_ble_eq_true rfl) (by kernel_rfl) ?_
 have Ab:True:=trivial
 refine Jx [0,1,2] ?_
 intro eg Aj
 simp only[Ag,Af,and_true]at Aj
 try simp only[↓pb,An,A19,hG.one,Am hG.p,Bj hG.q,Bn,Ab,irN,nrA,nrM,nrE,reduceIte,reduceCtorEq,nrL]at Aj
 replace Ab:=Aj;clear Aj
 repeat'(first|((with_reducible refine hK _ _ fun e2 Aj=>?_);clear hK K;simp only[B5c,Ag,Af,and_true,↓pb,An,A19,hG.one,Am hG.p,Bj hG.q,Bn,Ab,irN,nrA,nrM,nrE,reduceIte,reduceCtorEq,nrL]at Aj;clear Ab;(try clear eg);have Ab:=Aj;clear Aj;rename Bi=>eg)|((first|((with_reducible first|apply Ac|apply Al|apply Ak);(simp(disch:=try exact dA) only[Bh,A19,hG.one,Am hG.p,Bj hG.q,Bn,Ab,irN,nrA,nrM,nrE,reduceIte,reduceCtorEq,nrL];with_reducible exact rfl))|((with_reducible apply Cp);(simp only[↓pb,An,A19,hG.one,Am hG.p,Bj hG.q,Bn,Ab,irN,nrA,nrM,nrE,reduceIte,reduceCtorEq,nrL];(exact f53 _ _ _ _)))|(with_reducible first|refine Ai B5c fun K hK=>?_));try simp only[↓pb,↓pd,Bp,A19,hG.one,Am hG.p,Bj hG.q,Bn,Ab,irN,nrA,nrM,nrE,reduceIte,reduceCtorEq,nrL])|((first|((with_reducible first|apply Br|apply Bt);exact rfl)|(with_reducible apply Au));(simp only[↓pb,An,A19,hG.one,Am hG.p,Bj hG.q,Bn,Ab,irN,nrA,nrM,nrE,reduceIte,reduceCtorEq,nrL];with_reducible exact rfl);all_goals(intro hc;(first|exact C8 hc|try simp only[C0]at hc);try((with_reducible apply E3);simp only[↓pb,↓pd,Bp,A19,hG.one,Am hG.p,Bj hG.q,Bn,hc,Ab,irN,nrA,nrM,nrE,reduceIte,reduceCtorEq,nrL])))|(with_reducible first|refine Az ?_|refine Ap ?_|refine At ?_|refine Ay ?_|apply Ad)|((with_reducible apply Ae);(focus decide))|fail)
 all_goals(
  refine⟨by first|exact .inl rfl|exact .inr rfl, ?_⟩
  rw[Ec Try.results66]
  simp only[↓pb,An,A19,hG.one,Am hG.p,Bj hG.q,Bn,Bo,Bg,Ab,irN,nrA,nrM,nrE,reduceIte,reduceCtorEq,nrL]
  repeat ((with_reducible apply Ac);(simp(disch:=try exact dA) only[Bh,A19,hG.one,Am hG.p,Bj hG.q,Bn,Ab,irN,nrA,nrM,nrE,reduceIte,reduceCtorEq,nrL];exact rfl)))
 all_goals(
  refine⟨by first|rfl|(simp[He,Mr,Dz, *];done), ?_⟩
  try exact Bm)
end Go.Proofs.Swa
set_option maxRecDepth 20000
set_option linter.unusedVariables false
set_option linter.unusedSimpArgs false
namespace Go.Proofs.Swa
open Go
open Nat renaming reduceAdd → nrA, reduceMul → nrM, reduceEqDiff → nrE, reduceLT → nrL
open Int renaming reduceToNat → irN
attribute [local congr] Ja Gm I8 I9 Jb Hl Hm Hn
theorem A3W {α:Type}{p:α→Bool}{x:α}{l:List α}{a b c:Int}(h:c=if (x :: l).all p then a else b)(hx:p x=false):c=b:=by rw[h,List.all_cons,hx];rfl
theorem B0C {α:Type}{p:α→Bool}{x:α}{l:List α}{a b c:Int}(h:c=if (x :: l).all p then a else b)(hx:p x=true):c=if l.all p then a else b:=by rw[h,List.all_cons,hx,Bool.true_and]
theorem A6x {α:Type}{p:α→Bool}{l:List α}{i:Nat}{a b c:Int}(h:c=if (l.drop i).all p then a else b)(hi:l.length≤i):c=a:=by rw[h,List.drop_of_length_le hi];rfl
theorem f25 (va vb vc:Value)(g:Cv)(H:Aa)(hT:C1 H)(hG:RG H va vb vc g)(hl:g.Spots.length<1099511627776)(hl2:g.Sorts.length<1099511627776) :
  ∃ v H',C5 (.fn 25) #[.agg ⟨[va,vb,vc]⟩] H v H'∧v=iv (check g)∧Fr H.n [] H H':=by
 refine Cl.ofW Try.func25 rfl (by kernel_rfl) (by rw[Try.ntmps25];exact Nat.le_of_ble_eq_true rfl) (by kernel_rfl) ?_
 have Ab:True:=trivial
 refine Jx [0] ?_
 intro eg Aj
 simp only[Ag,Af,and_true]at Aj
 try simp only[↓pb,An,Dx,hG.one,Am hG.p,Bj hG.q,Ah hG.r,Ab,irN,nrA,nrM,nrE,reduceIte,reduceCtorEq,nrL]at Aj
 replace Ab:=Aj;clear Aj
 repeat'(first|((with_reducible refine hK _ _ fun e2 Aj=>?_);clear hK K;simp only[Ry,Ag,Af,and_true,↓pb,An,Dx,hG.one,Am hG.p,Bj hG.q,Ah hG.r,Ab,irN,nrA,nrM,nrE,reduceIte,reduceCtorEq,nrL]at Aj;clear Ab;(try clear eg);have Ab:=Aj;clear Aj;rename Bi=>eg)|((first|((with_reducible first|apply Ac|apply Al|apply Ak);(simp(disch:=try exact dA) only[Bh,Dx,hG.one,Am hG.p,Bj hG.q,Ah hG.r,Ab,irN,nrA,nrM,nrE,reduceIte,reduceCtorEq,nrL];with_reducible exact rfl))|((with_reducible apply Cp);(simp only[↓pb,An,Dx,hG.one,Am hG.p,Bj hG.q,Ah hG.r,Ab,irN,nrA,nrM,nrE,reduceIte,reduceCtorEq,nrL];(first|exact f53 _ _ _ _|exact f65 _ _ _)))|((with_reducible apply Bz);(focus exact Bb);(simp only[↓pb,An,Dx,hG.one,Am hG.p,Bj hG.q,Ah hG.r,Ab,irN,nrA,nrM,nrE,reduceIte,reduceCtorEq,nrL];(exact f66 _ _ _ _ _ _ _ (by exact Bb) (hG.fr (N:=H.n) (by exact Bm))));(intro Gq hq Fy;try simp only[Ao,A3]at hq))|(with_reducible first|refine Ai Ry fun K hK=>?_));try simp only[↓pb,↓pd,Bp,Dx,hG.one,Am hG.p,Bj hG.q,Ah hG.r,Ab,irN,nrA,nrM,nrE,reduceIte,reduceCtorEq,nrL])|((first|((with_reducible first|apply Br|apply Bt);exact rfl)|(with_reducible apply Au));(simp only[↓pb,An,Dx,hG.one,Am hG.p,Bj hG.q,Ah hG.r,Ab,irN,nrA,nrM,nrE,reduceIte,reduceCtorEq,nrL];with_reducible exact rfl);all_goals(intro hc;(first|exact C8 hc|try simp only[C0]at hc);try((with_reducible apply E3);simp only[↓pb,↓pd,Bp,Dx,hG.one,Am hG.p,Bj hG.q,Ah hG.r,hc,Ab,irN,nrA,nrM,nrE,reduceIte,reduceCtorEq,nrL])))|(with_reducible first|refine Az ?_|refine Ap ?_|refine At ?_|refine Ay ?_|refine Ax ?_|apply Ad)|((with_reducible apply Ae);(focus decide))|fail)
 ·refine⟨by first|exact .inl rfl|exact .inr rfl, ?_⟩
  rw[Ec Try.results25]
  simp only[↓pb,An,Dx,hG.one,Am hG.p,Bj hG.q,Ah hG.r,Bo,Bg,Ab,irN,nrA,nrM,nrE,reduceIte,reduceCtorEq,nrL]
  repeat ((with_reducible apply Ac);(simp(disch:=try exact dA) only[Bh,Dx,hG.one,Am hG.p,Bj hG.q,Ah hG.r,Ab,irN,nrA,nrM,nrE,reduceIte,reduceCtorEq,nrL];exact rfl))
  refine⟨by first|rfl|(simp[check, *];done), ?_⟩
  try exact Bm
 have h1:check g=if (g.Spots.drop 0).all Ms then Pd g else 1:=by
  rw[check,if_neg hc,List.drop_zero]
 refine Db [1,21,22] (by kernel_rfl) 23 (g.Spots.length) (H.n) [] [] (fun i e h=>check g=if (g.Spots.drop i).all Ms then Pd g else 1) (by simp only[↓pb,An,Dx,hG.one,Am hG.p,Bj hG.q,Ah hG.r,Ab,irN,nrA,nrM,nrE,reduceIte,reduceCtorEq,nrL]) (by focus exact Bb) (H0:=H) (by focus exact Bm) (by intro b hb hlt;simp at hb ⊢;try omega) ?_ ?_
 rotate_left
 intro i e h hi hE ei hF hF0 hTh hJ
 simp only[Ag,Af,and_true]at hE
 try simp only[↓pb,An,Dx,hG.one,Am hG.p,Bj hG.q,Ah hG.r,Ab,irN,nrA,nrM,nrE,reduceIte,reduceCtorEq,nrL]at hE
 have hn1:=hF.n;have hn0:=hF0.n;try simp only[Ao,A3]at hn1
 replace Ab:=B9p ei hE
 rotate_left
 ·exact h1
 clear h1 hc
 have G:=hG.fr hF0
 by_cases hi2:i<g.Spots.length
 ·rw[Ha hi2]at hJ
  repeat'(first|((with_reducible refine hK _ _ fun e2 Aj=>?_);clear hK K;simp only[Ry,Ag,Af,and_true,↓pb,An,Dx,hG.one,Am hG.p,Bj hG.q,Ah hG.r,Ab,irN,nrA,nrM,nrE,reduceIte,reduceCtorEq,nrL]at Aj;clear Ab;(try clear eg);have Ab:=Aj;clear Aj;rename Bi=>eg)|((first|((with_reducible first|apply Ac|apply Al|apply Ak);(simp(disch:=try exact dA) only[Bh,Dx,hG.one,Am hG.p,Bj hG.q,Ah hG.r,hE,ei,G.one,Am G.p,Bj G.q,Ah G.r,Hw G.p,(G.p.el Dc rfl),G.p.rd,G7,Ab,irN,nrA,nrM,nrE,reduceIte,reduceCtorEq,nrL];with_reducible exact rfl))|((with_reducible apply Cp);(simp only[↓pb,An,Dx,hG.one,Am hG.p,Bj hG.q,Ah hG.r,hE,ei,G.one,Am G.p,Bj G.q,Ah G.r,Hw G.p,(G.p.el Dc rfl),G.p.rd,G7,Ab,irN,nrA,nrM,nrE,reduceIte,reduceCtorEq,nrL];(first|exact f53 _ _ _ _|exact f65 _ _ _)))|((with_reducible apply Bz);(focus exact Bb);(simp only[↓pb,An,Dx,hG.one,Am hG.p,Bj hG.q,Ah hG.r,hE,ei,G.one,Am G.p,Bj G.q,Ah G.r,Hw G.p,(G.p.el Dc rfl),G.p.rd,G7,Ab,irN,nrA,nrM,nrE,reduceIte,reduceCtorEq,nrL];(exact f66 _ _ _ _ _ _ _ (by exact Bb) (hG.fr (N:=H.n) (by exact Bm))));(intro Gq hq Fy;try simp only[Ao,A3]at hq))|(with_reducible first|refine Ai Ry fun K hK=>?_));try simp only[↓pb,↓pd,Bp,Dx,hG.one,Am hG.p,Bj hG.q,Ah hG.r,hE,ei,G.one,Am G.p,Bj G.q,Ah G.r,Hw G.p,(G.p.el Dc rfl),G.p.rd,G7,Ab,irN,nrA,nrM,nrE,reduceIte,reduceCtorEq,nrL])|((first|((with_reducible first|apply Br|apply Bt);exact rfl)|(with_reducible apply Au));(simp only[↓pb,An,Dx,hG.one,Am hG.p,Bj hG.q,Ah hG.r,hE,ei,G.one,Am G.p,Bj G.q,Ah G.r,Hw G.p,(G.p.el Dc rfl),G.p.rd,G7,Ab,irN,nrA,nrM,nrE,reduceIte,reduceCtorEq,nrL];with_reducible exact rfl);all_goals(intro hc;(first|exact C8 hc|try simp only[C0]at hc);try((with_reducible apply E3);simp only[↓pb,↓pd,Bp,Dx,hG.one,Am hG.p,Bj hG.q,Ah hG.r,hE,ei,G.one,Am G.p,Bj G.q,Ah G.r,Hw G.p,(G.p.el Dc rfl),G.p.rd,G7,hc,Ab,irN,nrA,nrM,nrE,reduceIte,reduceCtorEq,nrL])))|(with_reducible first|refine Az ?_|refine Ap ?_|refine At ?_|refine Ay ?_|refine Ax ?_|apply Ad)|((with_reducible apply Ae);(focus decide))|fail)
  all_goals first|omega|skip
  all_goals first
   | (have hb:Ms (g.Spots.getD i default)=false:=by clear hJ;generalize g.Spots.getD i default=x at *;simp[Ms,Mr, *]
      refine⟨by first|exact .inl rfl|exact .inr rfl, ?_⟩
      rw[Ec Try.results25]
      simp only[↓pb,An,Dx,hG.one,Am hG.p,Bj hG.q,Ah hG.r,Bo,Bg,Ab,irN,nrA,nrM,nrE,reduceIte,reduceCtorEq,nrL]
      repeat ((with_reducible apply Ac);(simp(disch:=try exact dA) only[Bh,Dx,hG.one,Am hG.p,Bj hG.q,Ah hG.r,Ab,irN,nrA,nrM,nrE,reduceIte,reduceCtorEq,nrL];exact rfl))
      rw[A3W hJ hb]
      refine⟨by first|rfl|(simp[*];done), ?_⟩
      try exact Bm)
   | (have hb:Ms (g.Spots.getD i default)=true:=by clear hJ;generalize g.Spots.getD i default=x at *;simp[Ms,Mr, *]
      refine⟨by omega,by simp only[↓pb,An,Dx,hG.one,Am hG.p,Bj hG.q,Ah hG.r,Ab,irN,nrA,nrM,nrE,reduceIte,reduceCtorEq,nrL];exact congrArg _ (Di (by omega)),by focus exact Bm, ?_⟩
      exact B0C hJ hb)
 have h2:=A6x hJ (by omega)
 have hb1:h.get H.n=.cells [va,vb,vc] 26 .ex:=by rw[hF.old H.n (by simp only[Ao];omega) (by simp),Ch]
 have hb2:h.rd H.n=some [va,vb,vc]:=by rw[Bf,hb1];rfl
 clear hJ hF
 repeat'(first|((with_reducible refine hK _ _ fun e2 Aj=>?_);clear hK K;simp only[Ry,Ag,Af,and_true,↓pb,An,Dx,hG.one,Am hG.p,Bj hG.q,Ah hG.r,Ab,irN,nrA,nrM,nrE,reduceIte,reduceCtorEq,nrL]at Aj;clear Ab;(try clear eg);have Ab:=Aj;clear Aj;rename Bi=>eg)|((first|((with_reducible first|apply Ac|apply Al|apply Ak);(simp(disch:=try exact dA) only[Bh,Dx,hG.one,Am hG.p,Bj hG.q,Ah hG.r,hE,ei,hb2,G.one,Am G.p,Bj G.q,Ah G.r,Ab,irN,nrA,nrM,nrE,reduceIte,reduceCtorEq,nrL];with_reducible exact rfl))|((with_reducible apply Cp);(simp only[↓pb,An,Dx,hG.one,Am hG.p,Bj hG.q,Ah hG.r,hE,ei,hb2,G.one,Am G.p,Bj G.q,Ah G.r,Ab,irN,nrA,nrM,nrE,reduceIte,reduceCtorEq,nrL];(first|exact f53 _ _ _ _|exact f65 _ _ _)))|((with_reducible apply Bz);(focus exact Bb);(simp only[↓pb,An,Dx,hG.one,Am hG.p,Bj hG.q,Ah hG.r,hE,ei,hb2,G.one,Am G.p,Bj G.q,Ah G.r,Ab,irN,nrA,nrM,nrE,reduceIte,reduceCtorEq,nrL];(exact f66 _ _ _ _ _ _ _ (by exact Bb) (hG.fr (N:=H.n) (by exact Bm))));(intro Gq hq Fy;try simp only[Ao,A3]at hq))|(with_reducible first|refine Ai Ry fun K hK=>?_));try simp only[↓pb,↓pd,Bp,Dx,hG.one,Am hG.p,Bj hG.q,Ah hG.r,hE,ei,hb2,G.one,Am G.p,Bj G.q,Ah G.r,Ab,irN,nrA,nrM,nrE,reduceIte,reduceCtorEq,nrL])|((first|((with_reducible first|apply Br|apply Bt);exact rfl)|(with_reducible apply Au));(simp only[↓pb,An,Dx,hG.one,Am hG.p,Bj hG.q,Ah hG.r,hE,ei,hb2,G.one,Am G.p,Bj G.q,Ah G.r,Ab,irN,nrA,nrM,nrE,reduceIte,reduceCtorEq,nrL];with_reducible exact rfl);all_goals(intro hc;(first|exact C8 hc|try simp only[C0]at hc);try((with_reducible apply E3);simp only[↓pb,↓pd,Bp,Dx,hG.one,Am hG.p,Bj hG.q,Ah hG.r,hE,ei,hb2,G.one,Am G.p,Bj G.q,Ah G.r,hc,Ab,irN,nrA,nrM,nrE,reduceIte,reduceCtorEq,nrL])))|(with_reducible first|refine Az ?_|refine Ap ?_|refine At ?_|refine Ay ?_|refine Ax ?_|apply Ad)|((with_reducible apply Ae);(focus decide))|fail)
 ·refine⟨by first|exact .inl rfl|exact .inr rfl, ?_⟩
  rw[Ec Try.results25]
  simp only[↓pb,An,Dx,hG.one,Am hG.p,Bj hG.q,Ah hG.r,Bo,Bg,Ab,irN,nrA,nrM,nrE,reduceIte,reduceCtorEq,nrL]
  repeat ((with_reducible apply Ac);(simp(disch:=try exact dA) only[Bh,Dx,hG.one,Am hG.p,Bj hG.q,Ah hG.r,Ab,irN,nrA,nrM,nrE,reduceIte,reduceCtorEq,nrL];exact rfl))
  rw[h2]
  refine⟨by first|rfl|(simp[Pd, *];done), ?_⟩
  try exact Bm
 have h3:check g=if (g.Sorts.drop 0).all Ma then Pc g else 1:=by
  rw[h2,Pd,if_neg hc,List.drop_zero]
 clear hc hi2 h2
 have hEa:=hE;have hbp:=hb1
 refine Db [1,52,53] (by kernel_rfl) 54 (g.Sorts.length) (H.n) [] [] (fun i e h=>check g=if (g.Sorts.drop i).all Ma then Pc g else 1) (by simp only[↓pb,An,Dx,hG.one,Am hG.p,Bj hG.q,Ah hG.r,hEa,Ab,irN,nrA,nrM,nrE,reduceIte,reduceCtorEq,nrL]) (by focus exact Bb) (H0:=H) (by focus exact Bm) (by intro b hb hlt;simp at hb ⊢;try omega) ?_ ?_
 rotate_left
 intro i e h hi hE ei hF hF0 hTh hJ
 simp only[Ag,Af,and_true]at hE
 try simp only[↓pb,An,Dx,hG.one,Am hG.p,Bj hG.q,Ah hG.r,hEa,Ab,irN,nrA,nrM,nrE,reduceIte,reduceCtorEq,nrL]at hE
 have hn1:=hF.n;have hn0:=hF0.n;try simp only[Ao,A3]at hn1
 replace Ab:=B9p ei hE
 rotate_left
 ·exact h3
 clear h3 hb1 hb2 G
 have G:=hG.fr hF0
 have hb1:=(hF.old H.n (by omega) (by simp)).trans hbp
 have hb2:h.rd H.n=some [va,vb,vc]:=by rw[Bf,hb1];rfl
 by_cases hi2:i<g.Sorts.length
 ·rw[Ha hi2]at hJ
  repeat'(first|((with_reducible refine hK _ _ fun e2 Aj=>?_);clear hK K;simp only[Ry,Ag,Af,and_true,↓pb,An,Dx,hG.one,Am hG.p,Bj hG.q,Ah hG.r,Ab,irN,nrA,nrM,nrE,reduceIte,reduceCtorEq,nrL]at Aj;clear Ab;(try clear eg);have Ab:=Aj;clear Aj;rename Bi=>eg)|((first|((with_reducible first|apply Ac|apply Al|apply Ak);(simp(disch:=try exact dA) only[Bh,Dx,hG.one,Am hG.p,Bj hG.q,Ah hG.r,hE,ei,G.one,Am G.p,Bj G.q,Ah G.r,Fo G.q,(G.q.el Cz rfl),G.q.rd,Fs,Ab,irN,nrA,nrM,nrE,reduceIte,reduceCtorEq,nrL];with_reducible exact rfl))|((with_reducible apply Cp);(simp only[↓pb,An,Dx,hG.one,Am hG.p,Bj hG.q,Ah hG.r,hE,ei,G.one,Am G.p,Bj G.q,Ah G.r,Fo G.q,(G.q.el Cz rfl),G.q.rd,Fs,Ab,irN,nrA,nrM,nrE,reduceIte,reduceCtorEq,nrL];(first|exact f53 _ _ _ _|exact f65 _ _ _)))|((with_reducible apply Bz);(focus exact Bb);(simp only[↓pb,An,Dx,hG.one,Am hG.p,Bj hG.q,Ah hG.r,hE,ei,G.one,Am G.p,Bj G.q,Ah G.r,Fo G.q,(G.q.el Cz rfl),G.q.rd,Fs,Ab,irN,nrA,nrM,nrE,reduceIte,reduceCtorEq,nrL];(exact f66 _ _ _ _ _ _ _ (by exact Bb) (hG.fr (N:=H.n) (by exact Bm))));(intro Gq hq Fy;try simp only[Ao,A3]at hq))|(with_reducible first|refine Ai Ry fun K hK=>?_));try simp only[↓pb,↓pd,Bp,Dx,hG.one,Am hG.p,Bj hG.q,Ah hG.r,hE,ei,G.one,Am G.p,Bj G.q,Ah G.r,Fo G.q,(G.q.el Cz rfl),G.q.rd,Fs,Ab,irN,nrA,nrM,nrE,reduceIte,reduceCtorEq,nrL])|((first|((with_reducible first|apply Br|apply Bt);exact rfl)|(with_reducible apply Au));(simp only[↓pb,An,Dx,hG.one,Am hG.p,Bj hG.q,Ah hG.r,hE,ei,G.one,Am G.p,Bj G.q,Ah G.r,Fo G.q,(G.q.el Cz rfl),G.q.rd,Fs,Ab,irN,nrA,nrM,nrE,reduceIte,reduceCtorEq,nrL];with_reducible exact rfl);all_goals(intro hc;(first|exact C8 hc|try simp only[C0]at hc);try((with_reducible apply E3);simp only[↓pb,↓pd,Bp,Dx,hG.one,Am hG.p,Bj hG.q,Ah hG.r,hE,ei,G.one,Am G.p,Bj G.q,Ah G.r,Fo G.q,(G.q.el Cz rfl),G.q.rd,Fs,hc,Ab,irN,nrA,nrM,nrE,reduceIte,reduceCtorEq,nrL])))|(with_reducible first|refine Az ?_|refine Ap ?_|refine At ?_|refine Ay ?_|refine Ax ?_|apply Ad)|((with_reducible apply Ae);(focus decide))|fail)
  all_goals first
   | (have hb:Ma (g.Sorts.getD i default)=false:=by clear hJ;generalize g.Sorts.getD i default=x at *;simp[Ma,Mr, *]
      refine⟨by first|exact .inl rfl|exact .inr rfl, ?_⟩
      rw[Ec Try.results25]
      simp only[↓pb,An,Dx,hG.one,Am hG.p,Bj hG.q,Ah hG.r,Bo,Bg,Ab,irN,nrA,nrM,nrE,reduceIte,reduceCtorEq,nrL]
      repeat ((with_reducible apply Ac);(simp(disch:=try exact dA) only[Bh,Dx,hG.one,Am hG.p,Bj hG.q,Ah hG.r,Ab,irN,nrA,nrM,nrE,reduceIte,reduceCtorEq,nrL];exact rfl))
      rw[A3W hJ hb]
      refine⟨by first|rfl|(simp[*];done), ?_⟩
      try exact Bm)
   | (have hb:Ma (g.Sorts.getD i default)=true:=by clear hJ;generalize g.Sorts.getD i default=x at *;simp[Ma,Mr, *]
      refine⟨by omega,by simp only[↓pb,An,Dx,hG.one,Am hG.p,Bj hG.q,Ah hG.r,Ab,irN,nrA,nrM,nrE,reduceIte,reduceCtorEq,nrL];exact congrArg _ (Di (by omega)),by focus exact Bm, ?_⟩
      exact B0C hJ hb)
 have h2:=A6x hJ (by omega)
 clear hJ hF
 repeat'(first|((with_reducible refine hK _ _ fun e2 Aj=>?_);clear hK K;simp only[Ry,Ag,Af,and_true,↓pb,An,Dx,hG.one,Am hG.p,Bj hG.q,Ah hG.r,Ab,irN,nrA,nrM,nrE,reduceIte,reduceCtorEq,nrL]at Aj;clear Ab;(try clear eg);have Ab:=Aj;clear Aj;rename Bi=>eg)|((first|((with_reducible first|apply Ac|apply Al|apply Ak);(simp(disch:=try exact dA) only[Bh,Dx,hG.one,Am hG.p,Bj hG.q,Ah hG.r,hE,ei,hb2,G.one,Am G.p,Bj G.q,Ah G.r,Ab,irN,nrA,nrM,nrE,reduceIte,reduceCtorEq,nrL];with_reducible exact rfl))|((with_reducible apply Cp);(simp only[↓pb,An,Dx,hG.one,Am hG.p,Bj hG.q,Ah hG.r,hE,ei,hb2,G.one,Am G.p,Bj G.q,Ah G.r,Ab,irN,nrA,nrM,nrE,reduceIte,reduceCtorEq,nrL];(first|exact f53 _ _ _ _|exact f65 _ _ _)))|((with_reducible apply Bz);(focus exact Bb);(simp only[↓pb,An,Dx,hG.one,Am hG.p,Bj hG.q,Ah hG.r,hE,ei,hb2,G.one,Am G.p,Bj G.q,Ah G.r,Ab,irN,nrA,nrM,nrE,reduceIte,reduceCtorEq,nrL];(exact f66 _ _ _ _ _ _ _ (by exact Bb) (hG.fr (N:=H.n) (by exact Bm))));(intro Gq hq Fy;try simp only[Ao,A3]at hq))|(with_reducible first|refine Ai Ry fun K hK=>?_));try simp only[↓pb,↓pd,Bp,Dx,hG.one,Am hG.p,Bj hG.q,Ah hG.r,hE,ei,hb2,G.one,Am G.p,Bj G.q,Ah G.r,Ab,irN,nrA,nrM,nrE,reduceIte,reduceCtorEq,nrL])|((first|((with_reducible first|apply Br|apply Bt);exact rfl)|(with_reducible apply Au));(simp only[↓pb,An,Dx,hG.one,Am hG.p,Bj hG.q,Ah hG.r,hE,ei,hb2,G.one,Am G.p,Bj G.q,Ah G.r,Ab,irN,nrA,nrM,nrE,reduceIte,reduceCtorEq,nrL];with_reducible exact rfl);all_goals(intro hc;(first|exact C8 hc|try simp only[C0]at hc);try((with_reducible apply E3);simp only[↓pb,↓pd,Bp,Dx,hG.one,Am hG.p,Bj hG.q,Ah hG.r,hE,ei,hb2,G.one,Am G.p,Bj G.q,Ah G.r,hc,Ab,irN,nrA,nrM,nrE,reduceIte,reduceCtorEq,nrL])))|(with_reducible first|refine Az ?_|refine Ap ?_|refine At ?_|refine Ay ?_|refine Ax ?_|apply Ad)|((with_reducible apply Ae);(focus decide))|fail)
 ·refine⟨by first|exact .inl rfl|exact .inr rfl, ?_⟩
  rw[Ec Try.results25]
  simp only[↓pb,An,Dx,hG.one,Am hG.p,Bj hG.q,Ah hG.r,Bo,Bg,Ab,irN,nrA,nrM,nrE,reduceIte,reduceCtorEq,nrL]
  repeat ((with_reducible apply Ac);(simp(disch:=try exact dA) only[Bh,Dx,hG.one,Am hG.p,Bj hG.q,Ah hG.r,Ab,irN,nrA,nrM,nrE,reduceIte,reduceCtorEq,nrL];exact rfl))
  rw[h2,Pc,if_pos (by omega)]
  refine⟨by first|rfl|(simp[*];done), ?_⟩
  try exact Bm
 have h3:check g=Dq g 0 (g.Acts.drop 0):=by
  rw[h2,Pc,if_neg (by omega),List.drop_zero]
 clear hi2 h2
 have hEb:=hE;have hbp:=hb1
 refine Db [1,86,87] (by kernel_rfl) 88 (g.Acts.length) (H.n) [] [] (fun i e h=>∃ last,e 9=iv last∧check g=Dq g last (g.Acts.drop i)) (by simp only[↓pb,An,Dx,hG.one,Am hG.p,Bj hG.q,Ah hG.r,hEb,Ab,irN,nrA,nrM,nrE,reduceIte,reduceCtorEq,nrL]) (by focus exact Bb) (H0:=H) (by focus exact Bm) (by intro b hb hlt;simp at hb ⊢;try omega) ?_ ?_
 rotate_left
 intro i e h hi hE ei hF hF0 hTh hJ
 simp only[Ag,Af,and_true]at hE
 try simp only[↓pb,An,Dx,hG.one,Am hG.p,Bj hG.q,Ah hG.r,hEb,Ab,irN,nrA,nrM,nrE,reduceIte,reduceCtorEq,nrL]at hE
 have hn1:=hF.n;have hn0:=hF0.n;try simp only[Ao,A3]at hn1
 replace Ab:=B9p ei hE
 rotate_left
 ·exact⟨0,by simp only[↓pb,An,Dx,hG.one,Am hG.p,Bj hG.q,Ah hG.r,Ab,irN,nrA,nrM,nrE,reduceIte,reduceCtorEq,nrL],h3⟩
 obtain⟨last,e9,hJ⟩:=hJ
 clear h3 hb1 hb2 G
 have G:=hG.fr hF0
 have hb1:=(hF.old H.n (by omega) (by simp)).trans hbp
 have hb2:h.rd H.n=some [va,vb,vc]:=by rw[Bf,hb1];rfl
 by_cases hi2:i<g.Acts.length
 ·rw[Ha hi2]at hJ
  repeat'(first|((with_reducible refine hK _ _ fun e2 Aj=>?_);clear hK K;simp only[Ry,Ag,Af,and_true,↓pb,An,Dx,hG.one,Am hG.p,Bj hG.q,Ah hG.r,Ab,irN,nrA,nrM,nrE,reduceIte,reduceCtorEq,nrL]at Aj;clear Ab;(try clear eg);have Ab:=Aj;clear Aj;rename Bi=>eg)|((first|((with_reducible first|apply Ac|apply Al|apply Ak);(simp(disch:=try exact dA) only[Bh,Dx,hG.one,Am hG.p,Bj hG.q,Ah hG.r,hE,ei,e9,hb2,G.one,Am G.p,Bj G.q,Ah G.r,Ce G.r,(G.r.el Ba rfl),G.r.rd,Bn,Ab,irN,nrA,nrM,nrE,reduceIte,reduceCtorEq,nrL];with_reducible exact rfl))|((with_reducible apply Cp);(simp only[↓pb,An,Dx,hG.one,Am hG.p,Bj hG.q,Ah hG.r,hE,ei,e9,hb2,G.one,Am G.p,Bj G.q,Ah G.r,Ce G.r,(G.r.el Ba rfl),G.r.rd,Bn,Ab,irN,nrA,nrM,nrE,reduceIte,reduceCtorEq,nrL];(first|exact f53 _ _ _ _|exact f65 _ _ _)))|((with_reducible apply Bz);(focus exact Bb);(simp only[↓pb,An,Dx,hG.one,Am hG.p,Bj hG.q,Ah hG.r,hE,ei,e9,hb2,G.one,Am G.p,Bj G.q,Ah G.r,Ce G.r,(G.r.el Ba rfl),G.r.rd,Bn,Ab,irN,nrA,nrM,nrE,reduceIte,reduceCtorEq,nrL];(exact f66 _ _ _ _ _ _ _ (by exact Bb) (hG.fr (N:=H.n) (by exact Bm))));(intro Gq hq Fy;try simp only[Ao,A3]at hq))|(with_reducible first|refine Ai Ry fun K hK=>?_));try simp only[↓pb,↓pd,Bp,Dx,hG.one,Am hG.p,Bj hG.q,Ah hG.r,hE,ei,e9,hb2,G.one,Am G.p,Bj G.q,Ah G.r,Ce G.r,(G.r.el Ba rfl),G.r.rd,Bn,Ab,irN,nrA,nrM,nrE,reduceIte,reduceCtorEq,nrL])|((first|((with_reducible first|apply Br|apply Bt);exact rfl)|(with_reducible apply Au));(simp only[↓pb,An,Dx,hG.one,Am hG.p,Bj hG.q,Ah hG.r,hE,ei,e9,hb2,G.one,Am G.p,Bj G.q,Ah G.r,Ce G.r,(G.r.el Ba rfl),G.r.rd,Bn,Ab,irN,nrA,nrM,nrE,reduceIte,reduceCtorEq,nrL];with_reducible exact rfl);all_goals(intro hc;(first|exact C8 hc|try simp only[C0]at hc);try((with_reducible apply E3);simp only[↓pb,↓pd,Bp,Dx,hG.one,Am hG.p,Bj hG.q,Ah hG.r,hE,ei,e9,hb2,G.one,Am G.p,Bj G.q,Ah G.r,Ce G.r,(G.r.el Ba rfl),G.r.rd,Bn,hc,Ab,irN,nrA,nrM,nrE,reduceIte,reduceCtorEq,nrL])))|(with_reducible first|refine Az ?_|refine Ap ?_|refine At ?_|refine Ay ?_|refine Ax ?_|apply Ad)|((with_reducible apply Ae);(focus decide))|fail)
  ·refine⟨by first|exact .inl rfl|exact .inr rfl, ?_⟩
   rw[Ec Try.results25]
   simp only[↓pb,An,Dx,hG.one,Am hG.p,Bj hG.q,Ah hG.r,Bo,Bg,Ab,irN,nrA,nrM,nrE,reduceIte,reduceCtorEq,nrL]
   repeat ((with_reducible apply Ac);(simp(disch:=try exact dA) only[Bh,Dx,hG.one,Am hG.p,Bj hG.q,Ah hG.r,Ab,irN,nrA,nrM,nrE,reduceIte,reduceCtorEq,nrL];exact rfl))
   rw[hJ,Dq,if_pos hc]
   refine⟨by first|rfl|(simp[*];done), ?_⟩
   try exact Bm
  ·refine⟨by omega,by simp only[↓pb,An,Dx,hG.one,Am hG.p,Bj hG.q,Ah hG.r,e9,Ab,irN,nrA,nrM,nrE,reduceIte,reduceCtorEq,nrL];exact congrArg _ (Di (by omega)),by focus exact Bm, ?_⟩
   refine⟨_,by simp only[↓pb,An,Dx,hG.one,Am hG.p,Bj hG.q,Ah hG.r,Ab,irN,nrA,nrM,nrE,reduceIte,reduceCtorEq,nrL];exact rfl, ?_⟩
   rw[hJ,Dq,if_neg hc]
 ·rw[List.drop_of_length_le (by omega)]at hJ
  repeat'(first|((with_reducible refine hK _ _ fun e2 Aj=>?_);clear hK K;simp only[Ry,Ag,Af,and_true,↓pb,An,Dx,hG.one,Am hG.p,Bj hG.q,Ah hG.r,Ab,irN,nrA,nrM,nrE,reduceIte,reduceCtorEq,nrL]at Aj;clear Ab;(try clear eg);have Ab:=Aj;clear Aj;rename Bi=>eg)|((first|((with_reducible first|apply Ac|apply Al|apply Ak);(simp(disch:=try exact dA) only[Bh,Dx,hG.one,Am hG.p,Bj hG.q,Ah hG.r,hE,ei,e9,Ab,irN,nrA,nrM,nrE,reduceIte,reduceCtorEq,nrL];with_reducible exact rfl))|((with_reducible apply Cp);(simp only[↓pb,An,Dx,hG.one,Am hG.p,Bj hG.q,Ah hG.r,hE,ei,e9,Ab,irN,nrA,nrM,nrE,reduceIte,reduceCtorEq,nrL];(first|exact f53 _ _ _ _|exact f65 _ _ _)))|((with_reducible apply Bz);(focus exact Bb);(simp only[↓pb,An,Dx,hG.one,Am hG.p,Bj hG.q,Ah hG.r,hE,ei,e9,Ab,irN,nrA,nrM,nrE,reduceIte,reduceCtorEq,nrL];(exact f66 _ _ _ _ _ _ _ (by exact Bb) (hG.fr (N:=H.n) (by exact Bm))));(intro Gq hq Fy;try simp only[Ao,A3]at hq))|(with_reducible first|refine Ai Ry fun K hK=>?_));try simp only[↓pb,↓pd,Bp,Dx,hG.one,Am hG.p,Bj hG.q,Ah hG.r,hE,ei,e9,Ab,irN,nrA,nrM,nrE,reduceIte,reduceCtorEq,nrL])|((first|((with_reducible first|apply Br|apply Bt);exact rfl)|(with_reducible apply Au));(simp only[↓pb,An,Dx,hG.one,Am hG.p,Bj hG.q,Ah hG.r,hE,ei,e9,Ab,irN,nrA,nrM,nrE,reduceIte,reduceCtorEq,nrL];with_reducible exact rfl);all_goals(intro hc;(first|exact C8 hc|try simp only[C0]at hc);try((with_reducible apply E3);simp only[↓pb,↓pd,Bp,Dx,hG.one,Am hG.p,Bj hG.q,Ah hG.r,hE,ei,e9,hc,Ab,irN,nrA,nrM,nrE,reduceIte,reduceCtorEq,nrL])))|(with_reducible first|refine Az ?_|refine Ap ?_|refine At ?_|refine Ay ?_|refine Ax ?_|apply Ad)|((with_reducible apply Ae);(focus decide))|fail)
  refine⟨by first|exact .inl rfl|exact .inr rfl, ?_⟩
  rw[Ec Try.results25]
  simp only[↓pb,An,Dx,hG.one,Am hG.p,Bj hG.q,Ah hG.r,Bo,Bg,Ab,irN,nrA,nrM,nrE,reduceIte,reduceCtorEq,nrL]
  repeat ((with_reducible apply Ac);(simp(disch:=try exact dA) only[Bh,Dx,hG.one,Am hG.p,Bj hG.q,Ah hG.r,Ab,irN,nrA,nrM,nrE,reduceIte,reduceCtorEq,nrL];exact rfl))
  rw[hJ]
  refine⟨by first|rfl|(simp[Dq, *];done), ?_⟩
  try exact Bm
end Go.Proofs.Swa
