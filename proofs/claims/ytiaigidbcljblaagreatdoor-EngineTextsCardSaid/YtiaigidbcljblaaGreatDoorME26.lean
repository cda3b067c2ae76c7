import Derived.Test.YtiaigidbcljblaaGreatDoorME25
import Derived.Test.YtiaigidbcljblaaGreatDoorME1
import Derived.Deep.Cut
import Derived.Test.YtiaigidbcljblaaGreatDoorME6
import Derived.Deep.QuietTactic
import Derived.IntWalk
import Derived.Test.YtiaigidbcljblaaGreatDoorME2
import Derived.Test.YtiaigidbcljblaaGreatDoorME20
import Derived.BigQuiet
set_option linter.unusedSimpArgs false
set_option maxRecDepth 100000
set_option maxHeartbeats 40000000
namespace Go.Proofs.YtiaigidbcljblaaGreatDoor
open Go.RowKit
theorem bel1S(w:World)(o:Obj):Below w.heap.size w (w.alloc o):=(Below.refl _ w).alloc (Nat.le_refl _) o
def intC(c:List Int):List Value:=c.map (Value.int .i64)
theorem at_int{w:World}{A:Option Addr}{cap:Nat}{c:List Int}(h:Sn w 1 (.slice A c.length cap) c.length (intC c))(k:Nat)(hk:k<c.length):
  ∃ b off,A=some ⟨b,off,none⟩∧w.cell? ⟨b,off+k,none⟩=some (.int .i64 c[k]):=by
 obtain⟨A',cap',hv,_,_,hx⟩:=h
 injection hv with hA _ _
 subst hA
 obtain⟨b,off,rfl,hc⟩:=hx (by omega)
 exact⟨b,off,rfl,hc k _ (by simp[intC,hk])⟩
theorem word_any(k:Int)(w:World):
  Calls Tryz.prog 59 #[.int .i64 k] w fun e w'=>e = .returned (.string (SBy (wordL k)))∧w'=w:=by
 by_cases h1:k=1
 ·subst h1
  go_enter Tryz.func59,Tryz.ntmps59
  go_wp2_with fail
  go_ret
  exact⟨rfl,rfl⟩
 by_cases h2:k=2
 ·subst h2
  go_enter Tryz.func59,Tryz.ntmps59
  go_wp2_with fail
  go_ret
  exact⟨rfl,rfl⟩
 by_cases h3:k=3
 ·subst h3
  go_enter Tryz.func59,Tryz.ntmps59
  go_wp2_with fail
  go_ret
  exact⟨rfl,rfl⟩
 by_cases h4:k=4
 ·subst h4
  go_enter Tryz.func59,Tryz.ntmps59
  go_wp2_with fail
  go_ret
  exact⟨rfl,rfl⟩
 by_cases h5:k=5
 ·subst h5
  go_enter Tryz.func59,Tryz.ntmps59
  go_wp2_with fail
  go_ret
  exact⟨rfl,rfl⟩
 by_cases h6:k=6
 ·subst h6
  go_enter Tryz.func59,Tryz.ntmps59
  go_wp2_with fail
  go_ret
  exact⟨rfl,rfl⟩
 have e:wordL k=[]:=by unfold wordL;simp[h1,h2,h3,h4,h5,h6]
 rw[e]
 have t1:(k == 1)=false:=beq_eq_false_iff_ne.2 h1
 have t2:(k == 2)=false:=beq_eq_false_iff_ne.2 h2
 have t3:(k == 3)=false:=beq_eq_false_iff_ne.2 h3
 have t4:(k == 4)=false:=beq_eq_false_iff_ne.2 h4
 have t5:(k == 5)=false:=beq_eq_false_iff_ne.2 h5
 have t6:(k == 6)=false:=beq_eq_false_iff_ne.2 h6
 clear h1 h2 h3 h4 h5 h6 e
 go_enter Tryz.func59,Tryz.ntmps59
 go_wp2_with fail
 go_ret
 exact⟨rfl,rfl⟩
theorem rightCuts_any(c:List Int)(A:Option Addr)(cap:Nat)(w:World)(hs:Sn w 1 (.slice A c.length cap) c.length (intC c))(hm:c.length≤9223372036854775807):
  Calls Tryz.prog 67 #[.slice A c.length cap] w fun e w'=>e = .returned (.bool (cutsB c && decide (c.length≤20)))∧w'=w:=by
 have HS:=Lib.hid hs
 clear hs
 go_enter Tryz.func67,Tryz.ntmps67
 go_wp2_with fail
 go_loopw [7] (fun i wr=>∃ k:Nat,k≤c.length∧i = .int .i64 k∧Hid (cutsB (c.take k)=true)∧wr=w) (fun i _=>c.length-(intOf i).toNat)
 case atStart=>exact⟨0,Nat.zero_le _,rfl,Lib.hid rfl,rfl⟩
 case round=>
  obtain⟨k,hk,rfl,HP,hw⟩:=hrel
  rw[hw]
  clear hw
  rcases Nat.lt_or_ge k c.length with hlt|hge
  ·obtain⟨b,off,eA,c0⟩:=at_int HS.out k hlt
   subst eA
   obtain⟨x,hx⟩:∃ x,x=c[k]:=⟨_,rfl⟩
   rw[← hx] at c0
   have HX:=Lib.hid hx
   clear hx
   have hi0:(0:Int)≤k:=by omega
   have hi1:(k:Int)<c.length:=by omega
   rcases Bool.eq_false_or_eq_true (decide (x<0)) with t1|t1
   ·have HF:Hid (cutsB c=false):=Lib.hid (by
     rw[Bool.eq_false_iff]
     intro h
     have h:=List.all_eq_true.1 h c[k] (List.getElem_mem hlt)
     rw[← HX.out] at h
     simp only[Bool.and_eq_true,decide_eq_true_eq] at h t1
     omega)
    go_wp2_with fail
    go_ret
    exact⟨by rw[HF.out];rfl,rfl⟩
   ·rcases Bool.eq_false_or_eq_true (decide ((64:Int)<x)) with t2|t2
    ·have HF:Hid (cutsB c=false):=Lib.hid (by
      rw[Bool.eq_false_iff]
      intro h
      have h:=List.all_eq_true.1 h c[k] (List.getElem_mem hlt)
      rw[← HX.out] at h
      simp only[Bool.and_eq_true,decide_eq_true_eq] at h t2
      omega)
     go_wp2_with fail
     go_ret
     exact⟨by rw[HF.out];rfl,rfl⟩
    ·have HN:Hid (cutsB (c.take (k+1))=true):=Lib.hid (by
      have h:=HP.out
      unfold cutsB at h ⊢
      rw[List.take_succ_eq_append_getElem hlt,List.all_append,h,← HX.out]
      have h1:=of_decide_eq_false t1
      have h2:=of_decide_eq_false t2
      simp;omega)
     go_wp2_with fail
     exact⟨⟨k+1,by omega,by go_num,HN,by trivial⟩,by simp[intOf];omega⟩
  ·obtain rfl:k=c.length:=by omega
   have HP2:=HP.out
   rw[List.take_length] at HP2
   have HP3:=Lib.hid HP2
   clear HP2
   go_wp2_with fail
   go_ret
   refine⟨?_,rfl⟩
   rw[HP3.out]
   simp
   omega
theorem len_ne{α:Type}{l:List α}(h:l.isEmpty=false):((l.length:Int) != 0)=true:=by
 rw[bne_iff_ne]
 intro e
 have:l=[]:=List.length_eq_zero_iff.1 (by omega)
 rw[this] at h
 cases h
theorem len_eq{α:Type}{l:List α}(h:l.isEmpty=true):((l.length:Int) != 0)=false:=by
 rw[List.isEmpty_iff] at h
 subst h
 rfl
theorem right_any(k n:Int)(d:Bs)(c:List Int)(A B:Option Addr)(ca cb:Nat)(w:World)(hc:Sn w 1 (.slice B c.length cb) c.length (intC c))(hcm:c.length≤9223372036854775807)(hdm:d.length≤9223372036854775807):
  Calls Tryz.prog 37 #[.agg #[.int .i64 k,.int .i64 n,.slice A d.length ca,.slice B c.length cb]] w fun e w'=>e = .returned (.bool (rightB ⟨k,n,d,c⟩))∧Below w.heap.size w w':=by
 have HC:=Lib.hid hc
 clear hc
 by_cases h1:k=1
 ·subst h1
  rcases Bool.eq_false_or_eq_true d.isEmpty with d0|d0
  ·have d1:=len_eq d0
   rcases Bool.eq_false_or_eq_true c.isEmpty with c0|c0
   ·have c1:=len_eq c0
    rcases Bool.eq_false_or_eq_true (decide ((0:Int)≤n)) with t|t
    ·have HV:Hid (decide (n≤1099511627776)=rightB ⟨1,n,d,c⟩):=Lib.hid (by unfold rightB;(simp[d0,c0,t]) <;> omega)
     go_enter Tryz.func37,Tryz.ntmps37
     go_wp2_with (go_at_call 67;refine(rightCuts_any c B cb _ (HC.below (bel1S _ _)) hcm).mono ?_;rintro e w' ⟨rfl,rfl⟩)
     go_ret
     exact⟨congrArg (fun b=>Ending.returned (Value.bool b)) HV.out,bel1S _ _⟩
    ·have HV:Hid (false=rightB ⟨1,n,d,c⟩):=Lib.hid (by unfold rightB;(simp[d0,c0,t]) <;> omega)
     go_enter Tryz.func37,Tryz.ntmps37
     go_wp2_with (go_at_call 67;refine(rightCuts_any c B cb _ (HC.below (bel1S _ _)) hcm).mono ?_;rintro e w' ⟨rfl,rfl⟩)
     go_ret
     exact⟨congrArg (fun b=>Ending.returned (Value.bool b)) HV.out,bel1S _ _⟩
   ·have c1:=len_ne c0
    have HV:Hid (false=rightB ⟨1,n,d,c⟩):=Lib.hid (by unfold rightB;(simp[d0,c0]) <;> omega)
    go_enter Tryz.func37,Tryz.ntmps37
    go_wp2_with (go_at_call 67;refine(rightCuts_any c B cb _ (HC.below (bel1S _ _)) hcm).mono ?_;rintro e w' ⟨rfl,rfl⟩)
    go_ret
    exact⟨congrArg (fun b=>Ending.returned (Value.bool b)) HV.out,bel1S _ _⟩
  ·have d1:=len_ne d0
   have HV:Hid (false=rightB ⟨1,n,d,c⟩):=Lib.hid (by unfold rightB;(simp[d0]) <;> omega)
   go_enter Tryz.func37,Tryz.ntmps37
   go_wp2_with (go_at_call 67;refine(rightCuts_any c B cb _ (HC.below (bel1S _ _)) hcm).mono ?_;rintro e w' ⟨rfl,rfl⟩)
   go_ret
   exact⟨congrArg (fun b=>Ending.returned (Value.bool b)) HV.out,bel1S _ _⟩
 by_cases h2:k=2
 ·subst h2
  rcases Bool.eq_false_or_eq_true d.isEmpty with d0|d0
  ·have d1:=len_eq d0
   rcases Bool.eq_false_or_eq_true c.isEmpty with c0|c0
   ·have c1:=len_eq c0
    have HV:Hid ((n == 0)=rightB ⟨2,n,d,c⟩):=Lib.hid (by unfold rightB;(simp[d0,c0]) <;> omega)
    go_enter Tryz.func37,Tryz.ntmps37
    go_wp2_with (go_at_call 67;refine(rightCuts_any c B cb _ (HC.below (bel1S _ _)) hcm).mono ?_;rintro e w' ⟨rfl,rfl⟩)
    go_ret
    exact⟨congrArg (fun b=>Ending.returned (Value.bool b)) HV.out,bel1S _ _⟩
   ·have c1:=len_ne c0
    have HV:Hid (false=rightB ⟨2,n,d,c⟩):=Lib.hid (by unfold rightB;(simp[d0,c0]) <;> omega)
    go_enter Tryz.func37,Tryz.ntmps37
    go_wp2_with (go_at_call 67;refine(rightCuts_any c B cb _ (HC.below (bel1S _ _)) hcm).mono ?_;rintro e w' ⟨rfl,rfl⟩)
    go_ret
    exact⟨congrArg (fun b=>Ending.returned (Value.bool b)) HV.out,bel1S _ _⟩
  ·have d1:=len_ne d0
   have HV:Hid (false=rightB ⟨2,n,d,c⟩):=Lib.hid (by unfold rightB;(simp[d0]) <;> omega)
   go_enter Tryz.func37,Tryz.ntmps37
   go_wp2_with (go_at_call 67;refine(rightCuts_any c B cb _ (HC.below (bel1S _ _)) hcm).mono ?_;rintro e w' ⟨rfl,rfl⟩)
   go_ret
   exact⟨congrArg (fun b=>Ending.returned (Value.bool b)) HV.out,bel1S _ _⟩
 by_cases h3:k=3
 ·subst h3
  rcases Bool.eq_false_or_eq_true c.isEmpty with c0|c0
  ·have c1:=len_eq c0
   rcases Bool.eq_false_or_eq_true (n == 0) with t|t
   ·have HV:Hid (decide ((d.length:Int)≤131072)=rightB ⟨3,n,d,c⟩):=Lib.hid (by unfold rightB;(simp[c0,t]) <;> omega)
    go_enter Tryz.func37,Tryz.ntmps37
    go_wp2_with (go_at_call 67;refine(rightCuts_any c B cb _ (HC.below (bel1S _ _)) hcm).mono ?_;rintro e w' ⟨rfl,rfl⟩)
    go_ret
    exact⟨congrArg (fun b=>Ending.returned (Value.bool b)) HV.out,bel1S _ _⟩
   ·have HV:Hid (false=rightB ⟨3,n,d,c⟩):=Lib.hid (by unfold rightB;(simp[c0,t]) <;> omega)
    go_enter Tryz.func37,Tryz.ntmps37
    go_wp2_with (go_at_call 67;refine(rightCuts_any c B cb _ (HC.below (bel1S _ _)) hcm).mono ?_;rintro e w' ⟨rfl,rfl⟩)
    go_ret
    exact⟨congrArg (fun b=>Ending.returned (Value.bool b)) HV.out,bel1S _ _⟩
  ·have c1:=len_ne c0
   have HV:Hid (false=rightB ⟨3,n,d,c⟩):=Lib.hid (by unfold rightB;(simp[c0]) <;> omega)
   go_enter Tryz.func37,Tryz.ntmps37
   go_wp2_with (go_at_call 67;refine(rightCuts_any c B cb _ (HC.below (bel1S _ _)) hcm).mono ?_;rintro e w' ⟨rfl,rfl⟩)
   go_ret
   exact⟨congrArg (fun b=>Ending.returned (Value.bool b)) HV.out,bel1S _ _⟩
 by_cases h4:k=4
 ·subst h4
  rcases Bool.eq_false_or_eq_true d.isEmpty with d0|d0
  ·have d1:=len_eq d0
   rcases Bool.eq_false_or_eq_true c.isEmpty with c0|c0
   ·have c1:=len_eq c0
    have HV:Hid ((n == 0)=rightB ⟨4,n,d,c⟩):=Lib.hid (by unfold rightB;(simp[d0,c0]) <;> omega)
    go_enter Tryz.func37,Tryz.ntmps37
    go_wp2_with (go_at_call 67;refine(rightCuts_any c B cb _ (HC.below (bel1S _ _)) hcm).mono ?_;rintro e w' ⟨rfl,rfl⟩)
    go_ret
    exact⟨congrArg (fun b=>Ending.returned (Value.bool b)) HV.out,bel1S _ _⟩
   ·have c1:=len_ne c0
    have HV:Hid (false=rightB ⟨4,n,d,c⟩):=Lib.hid (by unfold rightB;(simp[d0,c0]) <;> omega)
    go_enter Tryz.func37,Tryz.ntmps37
    go_wp2_with (go_at_call 67;refine(rightCuts_any c B cb _ (HC.below (bel1S _ _)) hcm).mono ?_;rintro e w' ⟨rfl,rfl⟩)
    go_ret
    exact⟨congrArg (fun b=>Ending.returned (Value.bool b)) HV.out,bel1S _ _⟩
  ·have d1:=len_ne d0
   have HV:Hid (false=rightB ⟨4,n,d,c⟩):=Lib.hid (by unfold rightB;(simp[d0]) <;> omega)
   go_enter Tryz.func37,Tryz.ntmps37
   go_wp2_with (go_at_call 67;refine(rightCuts_any c B cb _ (HC.below (bel1S _ _)) hcm).mono ?_;rintro e w' ⟨rfl,rfl⟩)
   go_ret
   exact⟨congrArg (fun b=>Ending.returned (Value.bool b)) HV.out,bel1S _ _⟩
 by_cases h5:k=5
 ·subst h5
  rcases Bool.eq_false_or_eq_true d.isEmpty with d0|d0
  ·have d1:=len_eq d0
   rcases Bool.eq_false_or_eq_true c.isEmpty with c0|c0
   ·have c1:=len_eq c0
    rcases Bool.eq_false_or_eq_true (decide ((1:Int)≤n)) with t|t
    ·have HV:Hid (decide (n≤1048576)=rightB ⟨5,n,d,c⟩):=Lib.hid (by unfold rightB;(simp[d0,c0,t]) <;> omega)
     go_enter Tryz.func37,Tryz.ntmps37
     go_wp2_with (go_at_call 67;refine(rightCuts_any c B cb _ (HC.below (bel1S _ _)) hcm).mono ?_;rintro e w' ⟨rfl,rfl⟩)
     go_ret
     exact⟨congrArg (fun b=>Ending.returned (Value.bool b)) HV.out,bel1S _ _⟩
    ·have HV:Hid (false=rightB ⟨5,n,d,c⟩):=Lib.hid (by unfold rightB;(simp[d0,c0,t]) <;> omega)
     go_enter Tryz.func37,Tryz.ntmps37
     go_wp2_with (go_at_call 67;refine(rightCuts_any c B cb _ (HC.below (bel1S _ _)) hcm).mono ?_;rintro e w' ⟨rfl,rfl⟩)
     go_ret
     exact⟨congrArg (fun b=>Ending.returned (Value.bool b)) HV.out,bel1S _ _⟩
   ·have c1:=len_ne c0
    have HV:Hid (false=rightB ⟨5,n,d,c⟩):=Lib.hid (by unfold rightB;(simp[d0,c0]) <;> omega)
    go_enter Tryz.func37,Tryz.ntmps37
    go_wp2_with (go_at_call 67;refine(rightCuts_any c B cb _ (HC.below (bel1S _ _)) hcm).mono ?_;rintro e w' ⟨rfl,rfl⟩)
    go_ret
    exact⟨congrArg (fun b=>Ending.returned (Value.bool b)) HV.out,bel1S _ _⟩
  ·have d1:=len_ne d0
   have HV:Hid (false=rightB ⟨5,n,d,c⟩):=Lib.hid (by unfold rightB;(simp[d0]) <;> omega)
   go_enter Tryz.func37,Tryz.ntmps37
   go_wp2_with (go_at_call 67;refine(rightCuts_any c B cb _ (HC.below (bel1S _ _)) hcm).mono ?_;rintro e w' ⟨rfl,rfl⟩)
   go_ret
   exact⟨congrArg (fun b=>Ending.returned (Value.bool b)) HV.out,bel1S _ _⟩
 by_cases h6:k=6
 ·subst h6
  rcases Bool.eq_false_or_eq_true d.isEmpty with d0|d0
  ·have d1:=len_eq d0
   rcases Bool.eq_false_or_eq_true (decide ((0:Int)≤n)) with t|t
   ·rcases Bool.eq_false_or_eq_true (decide (n≤1048576)) with t2|t2
    ·have HV:Hid ((cutsB c && decide (c.length≤20))=rightB ⟨6,n,d,c⟩):=Lib.hid (by unfold rightB;(simp[d0,t,t2]) <;> omega)
     go_enter Tryz.func37,Tryz.ntmps37
     go_wp2_with (go_at_call 67;refine(rightCuts_any c B cb _ (HC.below (bel1S _ _)) hcm).mono ?_;rintro e w' ⟨rfl,rfl⟩)
     go_ret
     exact⟨congrArg (fun b=>Ending.returned (Value.bool b)) HV.out,bel1S _ _⟩
    ·have HV:Hid (false=rightB ⟨6,n,d,c⟩):=Lib.hid (by unfold rightB;(simp[d0,t,t2]) <;> omega)
     go_enter Tryz.func37,Tryz.ntmps37
     go_wp2_with (go_at_call 67;refine(rightCuts_any c B cb _ (HC.below (bel1S _ _)) hcm).mono ?_;rintro e w' ⟨rfl,rfl⟩)
     go_ret
     exact⟨congrArg (fun b=>Ending.returned (Value.bool b)) HV.out,bel1S _ _⟩
   ·have HV:Hid (false=rightB ⟨6,n,d,c⟩):=Lib.hid (by unfold rightB;(simp[d0,t]) <;> omega)
    go_enter Tryz.func37,Tryz.ntmps37
    go_wp2_with (go_at_call 67;refine(rightCuts_any c B cb _ (HC.below (bel1S _ _)) hcm).mono ?_;rintro e w' ⟨rfl,rfl⟩)
    go_ret
    exact⟨congrArg (fun b=>Ending.returned (Value.bool b)) HV.out,bel1S _ _⟩
  ·have d1:=len_ne d0
   have HV:Hid (false=rightB ⟨6,n,d,c⟩):=Lib.hid (by unfold rightB;(simp[d0]) <;> omega)
   go_enter Tryz.func37,Tryz.ntmps37
   go_wp2_with (go_at_call 67;refine(rightCuts_any c B cb _ (HC.below (bel1S _ _)) hcm).mono ?_;rintro e w' ⟨rfl,rfl⟩)
   go_ret
   exact⟨congrArg (fun b=>Ending.returned (Value.bool b)) HV.out,bel1S _ _⟩
 have t1:(k == 1)=false:=beq_eq_false_iff_ne.2 h1
 have t2:(k == 2)=false:=beq_eq_false_iff_ne.2 h2
 have t3:(k == 3)=false:=beq_eq_false_iff_ne.2 h3
 have t4:(k == 4)=false:=beq_eq_false_iff_ne.2 h4
 have t5:(k == 5)=false:=beq_eq_false_iff_ne.2 h5
 have t6:(k == 6)=false:=beq_eq_false_iff_ne.2 h6
 have u3:(k != 3)=true:=bne_iff_ne.2 h3
 have u6:(k != 6)=true:=bne_iff_ne.2 h6
 rcases Bool.eq_false_or_eq_true d.isEmpty with d0|d0
 ·have d1:=len_eq d0
  rcases Bool.eq_false_or_eq_true c.isEmpty with c0|c0
  ·have c1:=len_eq c0
   have HV:Hid (false=rightB ⟨k,n,d,c⟩):=Lib.hid (by unfold rightB;(simp[h1,h2,h3,h4,h5,h6,d0,c0]) <;> omega)
   go_enter Tryz.func37,Tryz.ntmps37
   go_wp2_with (go_at_call 67;refine(rightCuts_any c B cb _ (HC.below (bel1S _ _)) hcm).mono ?_;rintro e w' ⟨rfl,rfl⟩)
   go_ret
   exact⟨congrArg (fun b=>Ending.returned (Value.bool b)) HV.out,bel1S _ _⟩
  ·have c1:=len_ne c0
   have HV:Hid (false=rightB ⟨k,n,d,c⟩):=Lib.hid (by unfold rightB;(simp[h1,h2,h3,h4,h5,h6,d0,c0]) <;> omega)
   go_enter Tryz.func37,Tryz.ntmps37
   go_wp2_with (go_at_call 67;refine(rightCuts_any c B cb _ (HC.below (bel1S _ _)) hcm).mono ?_;rintro e w' ⟨rfl,rfl⟩)
   go_ret
   exact⟨congrArg (fun b=>Ending.returned (Value.bool b)) HV.out,bel1S _ _⟩
 ·have d1:=len_ne d0
  have HV:Hid (false=rightB ⟨k,n,d,c⟩):=Lib.hid (by unfold rightB;(simp[h1,h2,h3,h4,h5,h6,d0]) <;> omega)
  go_enter Tryz.func37,Tryz.ntmps37
  go_wp2_with (go_at_call 67;refine(rightCuts_any c B cb _ (HC.below (bel1S _ _)) hcm).mono ?_;rintro e w' ⟨rfl,rfl⟩)
  go_ret
  exact⟨congrArg (fun b=>Ending.returned (Value.bool b)) HV.out,bel1S _ _⟩
theorem SB_get(s:Bs)(k:Nat)(_:k<s.length)(h:k<(SBy s).size):(SBy s)[k]'h=s[k]:=by
 show(SBy s).data[k]=_
 simp[SBy]
 rfl
theorem idx_at(s:Bs)(k:Nat)(hk:k<s.length)(w:World):(Instr.index 9 (.string (SBy s)) (.int .i64 (k:Int))).run Tryz.prog w = .ok (.int .u8 (s[k].toNat:Int)) w:=by
 rw[run_index_string w 9 (SBy s) .i64 (k:Int) Tryz.underlying9,dif_pos (by rw[SB_size];omega)]
 simp only[Int.toNat_natCast]
 rw[SB_get s k hk]
 rfl
theorem SB_nonempty{S:ByteArray}(h:S≠⟨#[]⟩):S.toList.isEmpty=false:=by
 rw[Bool.eq_false_iff]
 intro e
 rw[ByteArray.toList_eq,List.isEmpty_iff] at e
 exact h (ByteArray.ext (Array.toList_inj.1 e))
def numR(s:Bs):Int×Bool:=match numB s with
 | some n=>((n:Int),true)
 | none=>(0,false)
theorem numR_none{s:Bs}(h:numB s=none):numR s=(0,false):=by unfold numR;rw[h]
theorem numR_some{s:Bs}{n:Nat}(h:numB s=some n):numR s=((n:Int),true):=by unfold numR;rw[h]
theorem numB_if(s:Bs):numB s=if decide (1≤s.length) && (decide (s.length≤13) && ((s.head? != some 48 || s.length == 1) && s.all isDig)) then some (valB s) else none:=rfl
theorem all_take_succ{s:Bs}{k:Nat}(hk:k<s.length)(p:UInt8→Bool):(s.take (k+1)).all p=((s.take k).all p && p s[k]):=by
 rw[List.take_succ_eq_append_getElem hk,List.all_append]
 simp
theorem valB_take{s:Bs}{k:Nat}(hk:k<s.length):valB (s.take (k+1))=valB (s.take k)*10+(s[k].toNat-48):=by
 rw[List.take_succ_eq_append_getElem hk,valB_snoc]
theorem pow_le{k:Nat}(h:k≤13):10 ^ k≤10000000000000:=Nat.le_trans (Nat.pow_le_pow_right (by omega) h) (by decide)
theorem parseNumber_any(s:Bs)(w:World)(hm:s.length≤9223372036854775807):
  Calls Tryz.prog 95 #[.string (SBy s)] w fun e w'=>e = .returned (.tuple #[.int .i64 (numR s).1,.bool (numR s).2])∧w'=w:=by
 have hix:=idx_at s
 obtain⟨S,hS⟩:∃ S,S=SBy s:=⟨_,rfl⟩
 have hsz:S.size=s.length:=by rw[hS,SB_size]
 rw[← hS] at hix ⊢
 have HIX:=Lib.hid hix
 clear hix hS
 rcases Bool.eq_false_or_eq_true (decide ((s.length:Int)<1)) with t1|t1
 ·have HN:Hid (numR s=(0,false)):=Lib.hid (numR_none (by rw[numB_if,if_neg];simp at t1 ⊢;omega))
  go_enter Tryz.func95,Tryz.ntmps95
  go_wp2_with fail
  go_ret2
  exact⟨by rw[HN.out];rfl,rfl⟩
 rcases Bool.eq_false_or_eq_true (decide ((13:Int)<s.length)) with t2|t2
 ·have HN:Hid (numR s=(0,false)):=Lib.hid (numR_none (by rw[numB_if,if_neg];simp at t2 ⊢;omega))
  go_enter Tryz.func95,Tryz.ntmps95
  go_wp2_with fail
  go_ret2
  exact⟨by rw[HN.out];rfl,rfl⟩
 have hl1:1≤s.length:=by have:=of_decide_eq_false t1;omega
 have hl2:s.length≤13:=by have:=of_decide_eq_false t2;omega
 have hi0:∀ w,(Instr.index 9 (.string S) (.int .i64 0)).run Tryz.prog w = .ok (.int .u8 ((s[0]'(by omega)).toNat:Int)) w:=fun w=>HIX.out 0 (by omega) w
 obtain⟨b0,hb0⟩:∃ b0,b0=s[0]:=⟨_,rfl⟩
 rw[← hb0] at hi0
 have hhd:s.head? = some b0:=by rw[hb0,List.head?_eq_getElem?,List.getElem?_eq_getElem]
 obtain⟨z0,hz0⟩:∃ z0,z0=(b0.toNat:Int):=⟨_,rfl⟩
 rw[← hz0] at hi0
 have HB0:=Lib.hid (show(b0=48) ↔ z0=48 by
  rw[hz0]
  constructor
  ·rintro rfl;rfl
  ·intro h;exact UInt8.toNat_inj.1 (by have:(48:UInt8).toNat=48:=rfl;omega))
 have HHD:=Lib.hid hhd
 clear hb0 hhd hz0
 have go:((z0 == 48) && decide ((1:Int)<s.length))=false→Calls Tryz.prog 95 #[.string S] w fun e w'=>e = .returned (.tuple #[.int .i64 (numR s).1,.bool (numR s).2])∧w'=w:=by
  intro hq
  have HL:Hid (numB s=if s.all isDig then some (valB s) else none):=Lib.hid (by
   rw[numB_if,HHD.out]
   have h:(some b0 != some 48 || s.length == 1)=true:=by
    rw[Bool.or_eq_true,bne_iff_ne,beq_iff_eq]
    rw[Bool.and_eq_false_iff] at hq
    rcases hq with h|h
    ·left
     intro e
     have:=HB0.out.1 (Option.some.inj e)
     rw[this] at h
     cases h
    ·right;have:=of_decide_eq_false h;omega
   rw[h]
   simp[hl1,hl2])
  have body:∀(Q:Prop),Q→Q:=fun _ h=>h
  rcases Bool.eq_false_or_eq_true (z0 == 48) with t3|t3
  ·rw[t3] at hq
   simp only[Bool.true_and,Bool.false_and] at hq
   go_enter Tryz.func95,Tryz.ntmps95
   go_wp2_with fail
   go_loopw [4,26] (fun n i wr=>∃ k:Nat,k≤s.length∧i = .int .i64 k∧n = .int .i64 (valB (s.take k):Nat)∧Hid ((s.take k).all isDig=true)∧wr=w) (fun _ i _=>s.length-(intOf i).toNat)
   case atStart=>exact⟨0,Nat.zero_le _,rfl,rfl,Lib.hid rfl,rfl⟩
   case round=>
    obtain⟨k,hk,rfl,rfl,HP,hw⟩:=hrel
    rw[hw]
    clear hw
    rcases Nat.lt_or_ge k s.length with hlt|hge
    ·have hi:=HIX.out k hlt
     have HV:=Lib.hid (valB_take hlt)
     have HA:=Lib.hid (all_take_succ hlt isDig)
     have hvl:=valB_lt k (s.take k) (by rw[List.length_take];omega) HP.out
     have hv13:=pow_le (show k≤13 by omega)
     obtain⟨b,hb⟩:∃ b,b=s[k]:=⟨_,rfl⟩
     rw[← hb] at hi HV HA
     have HS:=Lib.hid (show isDig b=true→s.all isDig=true∨True from fun _=>.inr trivial)
     have HB:Hid (isDig b=false→s.all isDig=false):=Lib.hid (fun h=>by
      rw[Bool.eq_false_iff]
      intro h2
      have:=List.all_eq_true.1 h2 s[k] (List.getElem_mem hlt)
      rw[← hb,h] at this
      cases this)
     have hbl:=UInt8.toNat_lt b
     obtain⟨z,hz⟩:∃ z,z=b.toNat:=⟨_,rfl⟩
     rw[← hz] at hi HV hbl
     have HD:Hid (isDig b=(decide (48≤z) && decide (z≤57))):=Lib.hid (by rw[hz];rfl)
     obtain⟨v,hv⟩:∃ v,v=valB (s.take k):=⟨_,rfl⟩
     rw[← hv] at HV hvl ⊢
     clear hz hv hb HS
     have hk0:(0:Int)≤k:=by omega
     have hk1:(k:Int)<s.length:=by omega
     rcases Bool.eq_false_or_eq_true (decide ((z:Int)<48)) with t4|t4
     ·have HF:Hid (numR s=(0,false)):=Lib.hid (numR_none (by
       rw[HL.out,HB.out (by rw[HD.out];have:=of_decide_eq_true t4;simp;omega)];rfl))
      go_wp2_with fail
      go_ret2
      exact⟨by rw[HF.out];rfl,rfl⟩
     ·rcases Bool.eq_false_or_eq_true (decide ((57:Int)<z)) with t5|t5
      ·have HF:Hid (numR s=(0,false)):=Lib.hid (numR_none (by
        rw[HL.out,HB.out (by rw[HD.out];have:=of_decide_eq_true t5;simp;omega)];rfl))
       go_wp2_with fail
       go_ret2
       exact⟨by rw[HF.out];rfl,rfl⟩
      ·have hz1:48≤z:=by have:=of_decide_eq_false t4;omega
       have hz2:z≤57:=by have:=of_decide_eq_false t5;omega
       have y1:IntKind.i64.wrap ((v:Int)*10)=(v:Int)*10:=IntWalk.i64_in _ (by omega)
       have y2:IntKind.u8.wrap ((z:Int)-48)=(z:Int)-48:=by unfold IntKind.wrap;simp[IntKind.signed,IntKind.bits];omega
       have y3:IntKind.i64.wrap ((z:Int)-48)=(z:Int)-48:=IntWalk.i64_in _ (by omega)
       have y4:IntKind.i64.wrap ((v:Int)*10+((z:Int)-48))=(v:Int)*10+((z:Int)-48):=IntWalk.i64_in _ (by omega)
       have HE:Hid ((v:Int)*10+((z:Int)-48)=((v*10+(z-48):Nat):Int)):=Lib.hid (by omega)
       have HOK:Hid ((s.take (k+1)).all isDig=true):=Lib.hid (by rw[HA.out,HP.out,HD.out];simp;omega)
       go_wp2_with fail
       exact⟨⟨k+1,by omega,by go_num,by rw[HV.out,← HE.out],HOK,by trivial⟩,by simp[intOf];omega⟩
    ·obtain rfl:k=s.length:=by omega
     have hP:=HP.out
     rw[List.take_length] at hP
     have HF:Hid (numR s=(((valB s:Nat):Int),true)):=Lib.hid (numR_some (by rw[HL.out,if_pos hP]))
     clear hP
     rw[List.take_length]
     go_wp2_with fail
     go_ret2
     exact⟨by rw[HF.out];rfl,rfl⟩
  ·rw[t3] at hq
   simp only[Bool.true_and,Bool.false_and] at hq
   go_enter Tryz.func95,Tryz.ntmps95
   go_wp2_with fail
   go_loopw [4,26] (fun n i wr=>∃ k:Nat,k≤s.length∧i = .int .i64 k∧n = .int .i64 (valB (s.take k):Nat)∧Hid ((s.take k).all isDig=true)∧wr=w) (fun _ i _=>s.length-(intOf i).toNat)
   case atStart=>exact⟨0,Nat.zero_le _,rfl,rfl,Lib.hid rfl,rfl⟩
   case round=>
    obtain⟨k,hk,rfl,rfl,HP,hw⟩:=hrel
    rw[hw]
    clear hw
    rcases Nat.lt_or_ge k s.length with hlt|hge
    ·have hi:=HIX.out k hlt
     have HV:=Lib.hid (valB_take hlt)
     have HA:=Lib.hid (all_take_succ hlt isDig)
     have hvl:=valB_lt k (s.take k) (by rw[List.length_take];omega) HP.out
     have hv13:=pow_le (show k≤13 by omega)
     obtain⟨b,hb⟩:∃ b,b=s[k]:=⟨_,rfl⟩
     rw[← hb] at hi HV HA
     have HS:=Lib.hid (show isDig b=true→s.all isDig=true∨True from fun _=>.inr trivial)
     have HB:Hid (isDig b=false→s.all isDig=false):=Lib.hid (fun h=>by
      rw[Bool.eq_false_iff]
      intro h2
      have:=List.all_eq_true.1 h2 s[k] (List.getElem_mem hlt)
      rw[← hb,h] at this
      cases this)
     have hbl:=UInt8.toNat_lt b
     obtain⟨z,hz⟩:∃ z,z=b.toNat:=⟨_,rfl⟩
     rw[← hz] at hi HV hbl
     have HD:Hid (isDig b=(decide (48≤z) && decide (z≤57))):=Lib.hid (by rw[hz];rfl)
     obtain⟨v,hv⟩:∃ v,v=valB (s.take k):=⟨_,rfl⟩
     rw[← hv] at HV hvl ⊢
     clear hz hv hb HS
     have hk0:(0:Int)≤k:=by omega
     have hk1:(k:Int)<s.length:=by omega
     rcases Bool.eq_false_or_eq_true (decide ((z:Int)<48)) with t4|t4
     ·have HF:Hid (numR s=(0,false)):=Lib.hid (numR_none (by
       rw[HL.out,HB.out (by rw[HD.out];have:=of_decide_eq_true t4;simp;omega)];rfl))
      go_wp2_with fail
      go_ret2
      exact⟨by rw[HF.out];rfl,rfl⟩
     ·rcases Bool.eq_false_or_eq_true (decide ((57:Int)<z)) with t5|t5
      ·have HF:Hid (numR s=(0,false)):=Lib.hid (numR_none (by
        rw[HL.out,HB.out (by rw[HD.out];have:=of_decide_eq_true t5;simp;omega)];rfl))
       go_wp2_with fail
       go_ret2
       exact⟨by rw[HF.out];rfl,rfl⟩
      ·have hz1:48≤z:=by have:=of_decide_eq_false t4;omega
       have hz2:z≤57:=by have:=of_decide_eq_false t5;omega
       have y1:IntKind.i64.wrap ((v:Int)*10)=(v:Int)*10:=IntWalk.i64_in _ (by omega)
       have y2:IntKind.u8.wrap ((z:Int)-48)=(z:Int)-48:=by unfold IntKind.wrap;simp[IntKind.signed,IntKind.bits];omega
       have y3:IntKind.i64.wrap ((z:Int)-48)=(z:Int)-48:=IntWalk.i64_in _ (by omega)
       have y4:IntKind.i64.wrap ((v:Int)*10+((z:Int)-48))=(v:Int)*10+((z:Int)-48):=IntWalk.i64_in _ (by omega)
       have HE:Hid ((v:Int)*10+((z:Int)-48)=((v*10+(z-48):Nat):Int)):=Lib.hid (by omega)
       have HOK:Hid ((s.take (k+1)).all isDig=true):=Lib.hid (by rw[HA.out,HP.out,HD.out];simp;omega)
       go_wp2_with fail
       exact⟨⟨k+1,by omega,by go_num,by rw[HV.out,← HE.out],HOK,by trivial⟩,by simp[intOf];omega⟩
    ·obtain rfl:k=s.length:=by omega
     have hP:=HP.out
     rw[List.take_length] at hP
     have HF:Hid (numR s=(((valB s:Nat):Int),true)):=Lib.hid (numR_some (by rw[HL.out,if_pos hP]))
     clear hP
     rw[List.take_length]
     go_wp2_with fail
     go_ret2
     exact⟨by rw[HF.out];rfl,rfl⟩
 rcases Bool.eq_false_or_eq_true ((z0 == 48) && decide ((1:Int)<s.length)) with hq|hq
 ·have HN:Hid (numR s=(0,false)):=Lib.hid (numR_none (by
   rw[numB_if,HHD.out,if_neg]
   rw[Bool.and_eq_true,beq_iff_eq] at hq
   have h1:=HB0.out.2 hq.1
   have h2:=of_decide_eq_true hq.2
   rw[h1]
   simp
   omega))
  rw[Bool.and_eq_true] at hq
  have t3:=hq.1
  have t4:=hq.2
  clear hq go
  go_enter Tryz.func95,Tryz.ntmps95
  go_wp2_with fail
  go_ret2
  exact⟨by rw[HN.out];rfl,rfl⟩
 ·exact go hq
theorem byteCells_one(l:Bs):∀ u∈Lib.byteCells l,u.oneCell'=true:=by
 intro u hu
 simp only[Lib.byteCells,List.mem_map] at hu
 obtain⟨_,_,rfl⟩:=hu
 rfl
theorem byteCells_append(x y:Bs):Lib.byteCells (x++y)=Lib.byteCells x++Lib.byteCells y:=by simp[Lib.byteCells]
def OwnB(w:World)(base:Nat)(v:Value)(l:Bs):Prop:=w.ownsRow base 5 1 v l.length (Lib.byteCells l)
theorem OwnB.conv{w:World}{base:Nat}{v:Value}{l:Bs}(h:OwnB w base v l):(convert 68 9 v).run Tryz.prog w = .ok (.string (SBy l)) w:=by
 rcases h.2 with ⟨rfl,h0⟩|⟨g,cap',cur,rfl,_,hh,_⟩
 ·have hL0:l=[]:=List.eq_nil_of_length_eq_zero h0
  rw[run_convert_bytes_nil w 68 5 Tryz.underlying68 Tryz.underlying5 _ _ _ Tryz.underlying9,hL0]
  rfl
 ·exact run_convert_bytes_back w 68 9 5 ⟨g,0,none⟩ cap' l Tryz.underlying68 Tryz.underlying5 Tryz.underlying9 (fun j hj=>by
   have:=World.ownsRow.cells h (g:=g) rfl j (.int .u8 (l[j].toNat:Int)) (by simp[Lib.byteCells,hj])
   exact this)
def digitsS:ByteArray:=⟨#[48,49,50,51,52,53,54,55,56,57,97,98,99,100,101,102]⟩
theorem hexL_length(l:Bs):(hexL l).length=2*l.length:=by
 induction l with
 | nil=>rfl
 | cons b l ih=>
  show(hexD _ :: hexD _ :: hexL l).length=_
  simp only[List.length_cons,ih]
  omega
end Go.Proofs.YtiaigidbcljblaaGreatDoor
