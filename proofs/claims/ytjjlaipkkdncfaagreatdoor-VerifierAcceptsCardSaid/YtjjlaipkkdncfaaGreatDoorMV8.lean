import Derived.Test.YtjjlaipkkdncfaaGreatDoorMV6
import Derived.Test.YtjjlaipkkdncfaaGreatDoorMV4
set_option linter.unusedSimpArgs false
set_option maxRecDepth 100000
set_option maxHeartbeats 40000000
namespace Go.Proofs.YtjjlaipkkdncfaaGreatDoor
open Go.Proofs.Tryz
open Go.RowKit
attribute [local irreducible] wpQuiet wpAnyH
def nS(s:Wl):Option Nat:=match prs s with|some (g,p)=>if p=toll then some g else none|none=>none
theorem QM(W:Wd):Sn (W.alloc (.cells #[.int .u8 84,.int .u8 79,.int .u8 76,.int .u8 76] 5 (4,5))) 1 (.slice (some ⟨W.heap.size,0,none⟩) 4 4) toll.length (u8s toll):=by
 refine⟨_,4,rfl,ja _,rfl,λ_=>⟨_,0,rfl,λj u I=>?_⟩⟩;have D:=heap_alloc_new W (.cells #[.int .u8 84,.int .u8 79,.int .u8 76,.int .u8 76] 5 (4,5));rw[cell_of_row _ _ _ _ _ _ D,Nat.zero_add];simpa [toll,u8s] using I
theorem BK:Bys toll:=λb hb=>by simp only[toll,jl,j8,or_false] at hb;omega
theorem y5{s:Wl}(hb:Bys s){g:Nat}{p:Wl}(h:prs s=some (g,p)):Bys p:=by
 unfold prs at h;split at h
 ·cases h
 ·split at h
  ·cases h
  ·split at h
   ·cases h
   ·injection h with h
    injection h with _ h
    subst h;exact λb D=>hb b (List.mem_of_mem_drop (j7 D))
theorem oB(s:Wl)(w:Wd)(hl:s.length=64)(hb:Bys s):
  Wc 157 #[.agg (u8s s).toArray] w λe w'=>Bw w w' /\
   ((nS s=none/\e = .returned (.tuple #[.int .u32 0,.bool false]))\/(∃ g,nS s=some g/\e = .returned (.tuple #[.int .u32 g,.bool true]))):=by
 have a1:(u8s s).length=64:=by rw[aK,hl]
 have O:=Blk.new w 195 (u8s s).toArray;have K:=O.range;rw[jt] at K;have a0:=jz K;have I:Bw w (w.alloc (.cells (u8s s).toArray 195)):=(ji _ w).alloc (ja _) _;clear O K;go_enter func157,ntmps157
 go_wp2_with (refine ld 195 _ rfl rfl rfl a0 underlying195 rfl (by rw[a1];kernel_rfl) ?_)
 refine(rO s _ hl hb).mono ?_;rintro e w2 ⟨J,⟨hn,rfl⟩|⟨g,p,v,hp,rfl,hs⟩⟩
 ·have D:=aB I J;have HN:Hid (nS s=none):=jz (by unfold nS;rw[hn]);clear hn;go_wp2_with fail
  go_ret2
  exact⟨D,.inl ⟨HN,rfl⟩⟩
 ·have D:=aB I J;have HP:=jz hp;have HS:=jz (hs.alloc (.cells #[.int .u8 84,.int .u8 79,.int .u8 76,.int .u8 76] 5 (4,5)));have Z:=jz (y5 hb hp);have HT:=jz (QM w2);have a2:=Lib.run_convert_bytes_const (P:=prog) w2 60 5 #[.int .u8 84,.int .u8 79,.int .u8 76,.int .u8 76] 4 4 underlying60 underlying5;have V:Hid (Bw w (w2.alloc (.cells #[.int .u8 84,.int .u8 79,.int .u8 76,.int .u8 76] 5 (4,5)))):=jz (D.alloc D.size _);clear hp hs J D I;go_wp2_with fail
  refine(rN _ _ p toll _ HS HT Z BK).mono ?_;rintro e w3 ⟨rfl,R⟩;have HW:Hid (Bw w w3):=jz (by rw[R];exact V);clear R;rcases jb (decide (p=toll)) with U|U
  ·rw[U];go_wp2_with fail
   go_ret2
   exact⟨HW,.inr ⟨g,by unfold nS;rw[HP.out];simp only;rw[jP (of_decide_eq_true U)],rfl⟩⟩
  ·rw[U];go_wp2_with fail
   go_ret2
   exact⟨HW,.inl ⟨by unfold nS;rw[HP.out];simp only;rw[jQ (of_decide_eq_false U)],rfl⟩⟩
end Go.Proofs.YtjjlaipkkdncfaaGreatDoor
