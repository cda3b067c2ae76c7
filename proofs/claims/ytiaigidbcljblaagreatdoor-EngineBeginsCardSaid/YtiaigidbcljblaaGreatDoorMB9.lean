import Derived.Test.YtiaigidbcljblaaGreatDoorMB7
import Derived.Test.YtiaigidbcljblaaGreatDoorMB6
set_option linter.unusedSimpArgs false
set_option maxRecDepth 100000
set_option maxHeartbeats 40000000
namespace Go.Proofs.YtiaigidbcljblaaGreatDoor
open Go.Proofs.Tryz
open Go.RowKit
attribute [local irreducible] wpQuiet wpAnyH
def oM(s:Wl):Option Nat:=match prs s with|some (g,p)=>if p=toll then some g else none|none=>none
theorem SR(W:Wd):Sn (W.alloc (.cells #[.int .u8 84,.int .u8 79,.int .u8 76,.int .u8 76] 5 (4,5))) 1 (.slice (some ⟨W.heap.size,0,none⟩) 4 4) toll.length (u8s toll):=by
 refine⟨_,4,rfl,ja _,rfl,λ_=>⟨_,0,rfl,λj u D=>?_⟩⟩;have x:=heap_alloc_new W (.cells #[.int .u8 84,.int .u8 79,.int .u8 76,.int .u8 76] 5 (4,5));rw[cell_of_row _ _ _ _ _ _ x,Nat.zero_add];simpa [toll,u8s] using D
theorem CQ:Bys toll:=λb hb=>by simp only[toll,jl,j8,or_false] at hb;omega
theorem AA{s:Wl}(hb:Bys s){g:Nat}{p:Wl}(h:prs s=some (g,p)):Bys p:=by
 unfold prs at h;split at h
 ·cases h
 ·split at h
  ·cases h
  ·split at h
   ·cases h
   ·injection h with h
    injection h with _ h
    subst h;exact λb j=>hb b (List.mem_of_mem_drop (j7 j))
theorem o8(s:Wl)(w:Wd)(hl:s.length=64)(hb:Bys s):
  Wc 310 #[.agg (u8s s).toArray] w λe w'=>Bw w w' /\
   ((oM s=none/\e = .returned (.tuple #[.int .u32 0,.bool false]))\/(∃ g,oM s=some g/\e = .returned (.tuple #[.int .u32 g,.bool true]))):=by
 have a0:(u8s s).length=64:=by rw[aI,hl]
 have J:=Blk.new w 243 (u8s s).toArray;have I:=J.range;rw[jt] at I;have V:=jz I;have x:Bw w (w.alloc (.cells (u8s s).toArray 243)):=(ji _ w).alloc (ja _) _;clear J I;go_enter func310,ntmps310
 go_wp2_with (refine ld 243 _ rfl rfl rfl V underlying243 rfl (by rw[a0];kernel_rfl) ?_)
 refine(sC s _ hl hb).mono ?_;rintro e w2 ⟨D,⟨hn,rfl⟩|⟨g,p,v,Z,rfl,hs⟩⟩
 ·have j:=aA x D;have HN:Hid (oM s=none):=jz (by unfold oM;rw[hn]);clear hn;go_wp2_with fail
  go_ret2
  exact⟨j,.inl ⟨HN,rfl⟩⟩
 ·have j:=aA x D;have HP:=jz Z;have HS:=jz (hs.alloc (.cells #[.int .u8 84,.int .u8 79,.int .u8 76,.int .u8 76] 5 (4,5)));have U:=jz (AA hb Z);have HT:=jz (SR w2);have a1:=Lib.run_convert_bytes_const (P:=prog) w2 68 5 #[.int .u8 84,.int .u8 79,.int .u8 76,.int .u8 76] 4 4 underlying68 underlying5;have R:Hid (Bw w (w2.alloc (.cells #[.int .u8 84,.int .u8 79,.int .u8 76,.int .u8 76] 5 (4,5)))):=jz (j.alloc j.size _);clear Z hs D j x;go_wp2_with fail
  refine(sB _ _ p toll _ HS HT U CQ).mono ?_;rintro e w3 ⟨rfl,K⟩;have HW:Hid (Bw w w3):=jz (by rw[K];exact R);clear K;rcases jb (decide (p=toll)) with O|O
  ·rw[O];go_wp2_with fail
   go_ret2
   exact⟨HW,.inr ⟨g,by unfold oM;rw[HP.out];simp only;rw[jP (of_decide_eq_true O)],rfl⟩⟩
  ·rw[O];go_wp2_with fail
   go_ret2
   exact⟨HW,.inl ⟨by unfold oM;rw[HP.out];simp only;rw[jQ (of_decide_eq_false O)],rfl⟩⟩
end Go.Proofs.YtiaigidbcljblaaGreatDoor
