/- The functions of the table are the program's. -/
import Derived.Test.YtjjdmlpdgcdehaaGreatProg
import Derived.Test.YtjjdmlpdgcdehaaGreatEngAll7
import Derived.Test.YtjjdmlpdgcdehaaGreatTab
import Derived.Test.YtjjdmlpdgcdehaaGreatEngAll8
import Derived.Test.YtjjdmlpdgcdehaaGreatSortLay
namespace Go.EnvOf
open Go Go.Eng Go.Proofs.Tryz
set_option maxRecDepth 100000
theorem ok0:tb0.all (chk1 prog)=true:=by kernel_rfl
theorem ok1:tb1.all (chk1 prog)=true:=by kernel_rfl
theorem ok2:tb2.all (chk1 prog)=true:=by kernel_rfl
theorem ok3:tb3.all (chk1 prog)=true:=by kernel_rfl
theorem ok4:tb4.all (chk1 prog)=true:=by kernel_rfl
theorem ok5:tb5.all (chk1 prog)=true:=by kernel_rfl
theorem ok6:tb6.all (chk1 prog)=true:=by kernel_rfl
theorem ok7:tb7.all (chk1 prog)=true:=by kernel_rfl
theorem ok8:tb8.all (chk1 prog)=true:=by kernel_rfl
theorem ok9:tb9.all (chk1 prog)=true:=by kernel_rfl
theorem ok10:tb10.all (chk1 prog)=true:=by kernel_rfl
theorem ok11:tb11.all (chk1 prog)=true:=by kernel_rfl
theorem ok12:tb12.all (chk1 prog)=true:=by kernel_rfl
theorem ok13:tb13.all (chk1 prog)=true:=by kernel_rfl
theorem ok14:tb14.all (chk1 prog)=true:=by kernel_rfl
theorem ok15:tb15.all (chk1 prog)=true:=by kernel_rfl
theorem ok16:tb16.all (chk1 prog)=true:=by kernel_rfl
theorem ok17:tb17.all (chk1 prog)=true:=by kernel_rfl
theorem ok18:tb18.all (chk1 prog)=true:=by kernel_rfl
theorem ok19:tb19.all (chk1 prog)=true:=by kernel_rfl
theorem ok20:tb20.all (chk1 prog)=true:=by kernel_rfl
theorem ok21:tb21.all (chk1 prog)=true:=by kernel_rfl
theorem ok22:tb22.all (chk1 prog)=true:=by kernel_rfl
theorem ok23:tb23.all (chk1 prog)=true:=by kernel_rfl
theorem ok24:tb24.all (chk1 prog)=true:=by kernel_rfl
theorem ok25:tb25.all (chk1 prog)=true:=by kernel_rfl
theorem ok26:tb26.all (chk1 prog)=true:=by kernel_rfl
theorem ok27:tb27.all (chk1 prog)=true:=by kernel_rfl
theorem ok: ∀p∈tab,FnOK prog p.1 p.2:=q16g (q16f ok0) (q16g (q16f ok1) (q16g (q16f ok2) (q16g (q16f ok3) (q16g (q16f ok4) (q16g (q16f ok5) (q16g (q16f ok6) (q16g (q16f ok7) (q16g (q16f ok8) (q16g (q16f ok9) (q16g (q16f ok10) (q16g (q16f ok11) (q16g (q16f ok12) (q16g (q16f ok13) (q16g (q16f ok14) (q16g (q16f ok15) (q16g (q16f ok16) (q16g (q16f ok17) (q16g (q16f ok18) (q16g (q16f ok19) (q16g (q16f ok20) (q16g (q16f ok21) (q16g (q16f ok22) (q16g (q16f ok23) (q16g (q16f ok24) (q16g (q16f ok25) (q16g (q16f ok26) (q16f ok27)))))))))))))))))))))))))))
theorem envOK:EnvOK prog EE where
 mix:=by kernel_rfl
 still:=fun _ _ _ _=>trivial
 fns f fn h:=q0hu ok h
 prims f g h:=by
  have h':(if f=376 then some sortP else none)=some g:=h
  split at h'
  ·rename_i e;subst e;cases h'
   exact fun vs H r hr G own w args hK ha h0 hw _=>q0t7 Go.Proofs.Tryz.lays189 (fun xs w1=>q07n func376 rfl rfl xs w1) hr ha h0 hw
  ·cases h'
end Go.EnvOf
