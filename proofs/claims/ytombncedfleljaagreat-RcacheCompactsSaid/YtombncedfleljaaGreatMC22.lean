import Derived.Test.YtombncedfleljaaGreatMC21
import Derived.Laws.IdiomStrings
import Derived.Lib.BytesEntry
set_option linter.unusedSimpArgs false
set_option maxRecDepth 100000
set_option maxHeartbeats 40000000
namespace Go.Proofs.YtombncedfleljaaGreat
open Go.RowKit
attribute [local irreducible] wpQuiet wpAnyH
theorem JV{s:List Int}(hl:s.length=64)(hb:Bys s):∃ a b:Nat,a<256∧b<256∧s[0]? = some (a:Int)∧s[1]? = some (b:Int)∧beN (s.take 2)=a*256+b:=by
 obtain⟨a,ha,ea⟩:=jV hl hb 0 (by omega);obtain⟨b,hb',eb⟩:=jV hl hb 1 (by omega);refine⟨a,b,ha,hb',ea,eb,?_⟩;have e:s.take 2=[(a:Int),b]:=by
  apply List.ext_getElem?;intro j;rw[List.getElem?_take]
  match j with
  | 0=>simpa using ea
  | 1=>simpa using eb
  | j+2=>simp;omega
 rw[e,gM,gM];simp only[List.length_cons,List.length_nil,Int.toNat_natCast];show _+(_+0)=_;omega
theorem EO{l:List Int}(h:∀ c∈l,c=0):kJ l=true:=by
 unfold kJ;rw[List.all_eq_true];exact fun c hc=>decide_eq_true (h c hc)
theorem AM{s:List Int}{n:Nat}(hl:s.length=64)(hn:n≤54)(h:∀ j,2+n≤j→j<56→s[j]? = some 0):kJ ((s.drop (2+n)).take (54-n))=true:=
 EO fun c hc=>by
  obtain⟨i,hi,rfl⟩:=List.getElem_of_mem hc;have hi2:i<54-n:=by rw[List.length_take] at hi;omega
  have:=h (2+n+i) (by omega) (by omega);rw[List.getElem_take,List.getElem_drop];exact Option.some.inj ((List.getElem?_eq_getElem (by omega)).symm.trans this)
theorem EP{s:List Int}{n k:Nat}{c:Int}(h1:2+n≤k)(h2:k<56)(hk:s[k]? = some c)(hc:c≠0):kJ ((s.drop (2+n)).take (54-n))=false:=by
 unfold kJ;rw[Bool.eq_false_iff];intro ha;rw[List.all_eq_true] at ha;refine hc (of_decide_eq_true (ha c ?_));refine List.mem_iff_getElem?.2 ⟨k-(2+n),?_⟩;rw[List.getElem?_take_of_lt (by omega),List.getElem?_drop,show 2+n+(k-(2+n))=k by omega];exact hk
theorem pG(s:List Int)(w:World)(hl:s.length=64)(hb:Bys s):
    Calls Tryz.prog 160 #[.agg (u8s s).toArray] w fun e w'=>Below w.heap.size w w' ∧
      ((prs s = none ∧ e = .returned (.tuple #[.int .u32 0, .slice none 0 0, .bool false])) ∨
       (∃ g p v,prs s=some (g,p)∧e = .returned (.tuple #[.int .u32 g,v,.bool true])∧Sn w' 1 v p.length (u8s p))):=by
  obtain⟨w1,hw1⟩:=je (w.alloc (.cells (u8s s).toArray 144));have hB1:Blk w1 w.heap.size 144 (u8s s).toArray:=by rw[hw1];exact Blk.new _ _ _
  have hb1:Below w.heap.size w w1:=by rw[hw1];exact aN _ _
  obtain⟨a,b,ha,hb',ea,eb,hN⟩:=JV hl hb;obtain⟨c0,c1,c2,c3,hc0,hc1,hc2,hc3,e0,e1,e2,e3,hX⟩:=yR hl hb 56 (by omega);obtain⟨N,hNN⟩:=je (beN (s.take 2));obtain⟨X,hXX⟩:=je (beN ((s.drop 56).take 4));rw[← hNN] at hN;rw[← hXX] at hX;have HN:=jz hN;have HX:=jz hX;have HNN:=jz hNN;have HXX:=jz hXX;have hul:(u8s s).length=64:=by rw[aP,hl]
  have k0:w1.cell? ⟨w.heap.size,0,none⟩=some (.int .u8 (a:Nat)):=by rw[hB1.cell 0,List.getElem?_toArray];exact fL ea
  have k1:w1.cell? ⟨w.heap.size,1,none⟩=some (.int .u8 (b:Nat)):=by rw[hB1.cell 1,List.getElem?_toArray];exact fL eb
  have HB1:=jz hB1;have HW1:=jz hb1;have HL:=jz hl;have HBY:=jz hb;have HUI:Hid ((Tryz.prog.info? 144).map (·.size)=some (u8s s).length):=jz (by rw[hul];kernel_rfl);have m0:w1.cell? ⟨w.heap.size,56,none⟩=some (.int .u8 (c0:Nat)):=by rw[hB1.cell 56,List.getElem?_toArray];exact fL e0
  have m1:w1.cell? ⟨w.heap.size,57,none⟩=some (.int .u8 (c1:Nat)):=by rw[hB1.cell 57,List.getElem?_toArray];exact fL e1
  have m2:w1.cell? ⟨w.heap.size,58,none⟩=some (.int .u8 (c2:Nat)):=by rw[hB1.cell 58,List.getElem?_toArray];exact fL e2
  have m3:w1.cell? ⟨w.heap.size,59,none⟩=some (.int .u8 (c3:Nat)):=by rw[hB1.cell 59,List.getElem?_toArray];exact fL e3
  clear hN hX hNN hXX ea eb e0 e1 e2 e3 hB1 hb1 hb hl hul;go_enter Tryz.func160,Tryz.ntmps160
  go_upto_region 1 with fail
  rw[← hw1];clear hw1;go_cut [5] from 8 to 16 (fun n wx=>n = .int .i64 (N:Int)∧wx=w1)
  case first=>
    go_wp2_with fail
    go_meet
    exact⟨congrArg (Value.int .i64) (by have:=HN.out;omega),by trivial⟩
  case rest=>
  obtain⟨rfl,hwc⟩:=hcut;rw[hwc];clear hwc k0 k1;go_upto_region 2 with fail
  go_cut [6] from 16 to 34 (fun n wx=>n = .int .u32 (X:Int)∧wx=w1)
  case first=>
    go_wp2_with fail
    go_meet
    exact⟨congrArg (Value.int .u32) (by have:=HX.out;omega),by trivial⟩
  case rest=>
  obtain⟨rfl,hwc⟩:=hcut;rw[hwc];clear hwc m0 m1 m2 m3;have hr1:=HB1.range;rw[jt] at hr1;have HR1:=jz hr1;have HSUM:=jz (uD s w1 HL.out HBY.out);obtain⟨C,hC⟩:=je (bQ (s.take 56++s.drop 60));rw[← hC] at HSUM;have HC:=jz hC;clear hC hr1;rcases jb (decide ((54:Int)<N)) with t1|t1
  · have HF:Hid (prs s=none):=jz (by unfold prs;rw[← HNN.out,if_pos (by have:=of_decide_eq_true t1;omega)]);go_wp2_with fail
    go_ret3
    exact⟨HW1.out,.inl ⟨HF.out,rfl⟩⟩
  · have hn54:N≤54:=by have:=of_decide_eq_false t1;omega
    rcases jb ((X:Int) != (C:Int)) with t2|t2
    · have HF:Hid (prs s=none):=jz (by
        unfold prs
        rw[← HNN.out,← HXX.out,← HC.out,if_neg (by omega)]
        split
        · rfl
        · rw [if_pos (by have : (X : Int) ≠ C := by simpa using t2
                         omega)])
      go_wp2_with (first
        | (refine ld 144 _ rfl rfl rfl HR1.out Tryz.underlying144 rfl HUI.out ?_)
        | (go_at_call 147;refine HSUM.mono ?_;rintro e w2 ⟨rfl,hb2⟩;have HB2:=jz hb2;clear hb2))
      go_ret3
      exact⟨aB HW1.out HB2.out,.inl ⟨HF.out,rfl⟩⟩
    · have HXC : Hid (X = C) := Lib.hid (by have : (X : Int) = C := by simpa using t2
                                            omega)
      go_upto_region 6 with (first
        | (refine ld 144 _ rfl rfl rfl HR1.out Tryz.underlying144 rfl HUI.out ?_)
        | (go_at_call 147;refine HSUM.mono ?_;rintro e w2 ⟨rfl,hb2⟩;have HB2:=jz hb2;clear hb2))
      have HA2:Hid (Blk w2 w.heap.size 144 (u8s s).toArray):=jz (HB1.keep HB2.out);have HW2:Hid (Below w.heap.size w w2):=jz (aB HW1.out HB2.out);clear HB2 HB1 HW1 HR1 HSUM t2;go_loopw [7] (fun i wr=>∃ k:Nat,2+N≤k∧k≤56∧wr=w2∧i = .int .i64 (k:Int)∧Hid (∀ j,2+N≤j→j<k→s[j]? = some 0)) (fun i _=>56-(intOf i).toNat)
      case atStart=>exact⟨2+N,Nat.le_refl _,by omega,rfl,congrArg (Value.int .i64) (by omega),jz (fun j h1 h2=>by omega)⟩
      case round=>
        obtain⟨k,hk1,hk2,rfl,rfl,HZ⟩:=hrel;rcases Nat.lt_or_ge k 56 with hlt|hge
        · obtain⟨c,hc,ec⟩:=jV HL.out HBY.out k (by omega);have kc:wr.cell? ⟨w.heap.size,k,none⟩=some (.int .u8 (c:Nat)):=by rw[HA2.cell k,List.getElem?_toArray];exact fL ec
          have HEC:=jz ec;have hi0:(0:Int)≤k:=by omega
          have hi1:(k:Int)<56:=by omega
          have hi2:(k:Int)<64:=by omega
          clear ec;rcases jb ((c:Int) != 0) with t3|t3
          · have HF:Hid (prs s=none):=jz (by
              unfold prs
              rw[← HNN.out,if_neg (by omega),EP hk1 hlt HEC.out (by simpa using t3)]
              rfl)
            go_wp2_with fail
            go_ret3
            exact⟨HW2.out,.inl ⟨HF.out,rfl⟩⟩
          · have hz:(c:Int)=0:=by simpa using t3
            have HZ2:Hid (∀ j,2+N≤j→j<k+1→s[j]? = some 0):=jz (fun j h1 h2=>by
              rcases Nat.lt_or_ge j k with h|h
              · exact HZ.out j h1 h
              · obtain rfl:j=k:=by omega
                rw[HEC.out,hz])
            have t4:((c:Int) == 0)=true:=by simpa using hz
            clear hz;go_wp2_with fail
            exact⟨⟨k+1,by omega,by omega,by trivial,by go_num,HZ2⟩,by simp[intOf];omega⟩
        · obtain rfl:k=56:=by omega
          have HF:Hid (prs s=some (beN ((s.drop 60).take 4),(s.drop 2).take N)):=jz (by
            unfold prs
            rw[← HNN.out,if_neg (by omega),AM HL.out hn54 HZ.out,← HXX.out,← HC.out,if_neg (by simp),if_neg (by rw[HXC.out];simp)])
          have hi1:((56:Nat):Int)=56:=rfl;have hNl:((s.drop 2).take N).length=N:=by rw[List.length_take,List.length_drop,HL.out];omega
          have HNL:=jz hNl;obtain⟨G,hG⟩:=je (beN ((s.drop 60).take 4));have HTG:=jz (fun W=>uE s W HL.out HBY.out);rw[← hG] at HTG HF;clear hG hNl HZ t1;go_upto_region 10 with fail
          obtain⟨wS,hwS⟩:=je wr.drew;have HAS:Hid (∀ W,Below wS.heap.size wS W→Blk W w.heap.size 144 (u8s s).toArray):=jz (fun W hb=>(HA2.keep (by rw[hwS];exact(Below.refl _ _).drew)).keep hb);have HWS:Hid (Below w.heap.size w wS):=jz (by rw[hwS];exact HW2.drew);have HRS:Hid (∀ W,Below wS.heap.size wS W→W.rangeAt w.heap.size 0 (u8s s)):=jz (fun W hb=>by have h:=(HAS.out W hb).range;rw[jt] at h;exact h);have HSS:Hid (∀ W,Below wS.heap.size wS W→Sn W 1 (.slice (some ⟨w.heap.size,2,none⟩) N 62) N (u8s ((s.drop 2).take N))):=jz (fun W hb=>Sn.of_blk (HAS.out W hb) 2 N 62 (by rw[HL.out];omega) (by omega));have HR0:Hid (Below wS.heap.size wS wS):=jz (Below.refl _ _);have hsz:w.heap.size≤wS.heap.size:=HWS.size;clear HA2 HW2;refine aQ 10 (fun W=>Below wS.heap.size wS W) (by kernel_rfl) (by kernel_rfl) (by rw[← hwS];exact HR0.out) (fun hH=>?_);rw[← hwS] at hH ⊢;clear hwS;refine jL 0 144 (.tmp 1) (some 52) (cs:=u8s s) (fun _ hX=>HRS.out _ hX) Tryz.underlying144 rfl HUI.out hH ?_;simp only[jq];refine jM 3 (.tmp 5) (some 55) (.int .i64 (N:Int)) hH ?_;simp only[jq];refine jT 4 (.binOp .add 3 (.const (.int .i64 2)) (.tmp 55) 3) (some 56) (.int .i64 (2+(N:Int))) (hy:=fun o ho wX hX=>by unfold execOp;simp only[ho];go_simp;exact IntWalk.i64_in _ (by omega)) hH ?_;simp only[jq];refine jT 5 (.slice 144 (.tmp 1) (some (.const (.int .i64 2))) (some (.tmp 56)) none) (some 57) (.slice (some ⟨w.heap.size,2,none⟩) N 62) (hy:=fun o ho wX hX=>by have h2:((2:Int)+N).toNat=2+N:=(by omega);have h3:(2:Int)+N≤64:=(by omega);have h4:(2:Int)≤2+N:=(by omega);unfold execOp;simp only[ho];go_simp) hH ?_;simp only[jq];refine jW [1,2] ?_;refine jC 1 (.call { callee:=.value (.func 154),args:=#[.tmp 52],argTypes:=#[144] }) (some 53) 154 (#[.agg (u8s s).toArray]) ?_ (jS 2 (.buildSlice 78 0 #[]) (some 54) (.slice (some ⟨wS.heap.size,0,none⟩) 0 0) (wS.alloc (.cells #[] 5)) (aB HR0.out (aN _ _)) ?_ jN)
          · refine(HTG.out wS).mono ?_;rintro e wq1 ⟨rfl,hB1⟩;have HB1:=jz (aB HR0.out hB1);refine⟨_,rfl,HB1.out,fun hH=>?_⟩;simp only[jq];refine jW [2] ?_;refine jS 2 (.buildSlice 78 0 #[]) (some 54) (.slice (some ⟨wq1.heap.size,0,none⟩) 0 0) (wq1.alloc (.cells #[] 5)) (aB HB1.out (aN _ _)) ?_ jN;simp only[jq];obtain⟨wq2,hw2⟩:=je (wq1.alloc (.cells #[] 5));have hB2:Below wq1.heap.size wq1 wq2:=by rw[hw2];exact aN _ _
            have HB2:=jz (aB HB1.out hB2);have HO2:Hid (wq2.ownsRow wS.heap.size 5 1 (.slice (some ⟨wq1.heap.size,0,none⟩) 0 0) 0 []):=jz (by rw[hw2];exact cI wq1 #[] 5 1 0 wS.heap.size _ HB1.size rfl (by decide) rfl);rw[← hw2];clear hw2;have hH:=HB2.out;refine jW [6] ?_;refine bZ 6 pS (.tmp 54) (.tmp 57) (some 58) (by kernel_rfl) (by kernel_rfl) (by rfl) HO2.out (by rfl) (HSS.out _ HB2.out) (bS _) (by unfold maxLen;omega) (by omega) HB2.size (fun v3 wq3 hown hgrow _=>?_) jN;rw[List.nil_append,Nat.zero_add] at hown;obtain⟨a3,c3,hv3,_,_⟩:=aU hown;subst hv3;have HO3:=jz hown;have HB3:Hid (Below wS.heap.size wS wq3):=jz (HB2.grown hgrow HB2.size (fun g hg=>(HO2.lt g hg).1));clear hown hgrow;refine⟨HB3.out,fun hH=>?_⟩;simp only[jq];refine jT 7 (.assign (.tmp 53)) (some 2) (.int .u32 (G:Int)) hH ?_;simp only[jq];refine jT 8 (.assign (.tmp 58)) (some 3) (.slice a3 N c3) hH ?_;simp only[jq];refine jT 9 (.assign (.const (.bool true))) (some 4) (.bool true) hH ?_;simp only[jq];refine wpAnyH_done (by kernel_rfl) ?_ _;go_wp2_with fail
            go_ret3
            exact⟨aB HWS.out HB3.out,.inr ⟨G,(s.drop 2).take N,_,HF.out,rfl,by rw[HNL.out];exact Sn.own HO3.out⟩⟩
          · simp only[jq];obtain⟨wq4,hw4⟩:=je (wS.alloc (.cells #[] 5));have hB4:Below wS.heap.size wS wq4:=by rw[hw4];exact aN _ _
            have HB4:=jz (aB HR0.out hB4);have HO4:Hid (wq4.ownsRow wS.heap.size 5 1 (.slice (some ⟨wS.heap.size,0,none⟩) 0 0) 0 []):=jz (by rw[hw4];exact cI wS #[] 5 1 0 wS.heap.size _ HR0.size rfl (by decide) rfl);rw[← hw4];clear hw4;have hH:=HB4.out;refine jW [1] ?_;refine jC 1 (.call { callee:=.value (.func 154),args:=#[.tmp 52],argTypes:=#[144] }) (some 53) 154 (#[.agg (u8s s).toArray]) ?_ jN;refine(HTG.out wq4).mono ?_;rintro e wq5 ⟨rfl,hB5⟩;have own_5:=jz (aX HO4.out hB5);have HB5:=jz (aB HB4.out hB5);refine⟨_,rfl,HB5.out,fun hH=>?_⟩;simp only[jq];refine jW [6] ?_;refine bZ 6 pS (.tmp 54) (.tmp 57) (some 58) (by kernel_rfl) (by kernel_rfl) (by rfl) own_5.out (by rfl) (HSS.out _ HB5.out) (bS _) (by unfold maxLen;omega) (by omega) HB5.size (fun v6 wq6 hown hgrow _=>?_) jN;rw[List.nil_append,Nat.zero_add] at hown;obtain⟨a6,c6,hv6,_,_⟩:=aU hown;subst hv6;have HO6:=jz hown;have HB6:Hid (Below wS.heap.size wS wq6):=jz (HB5.grown hgrow HB5.size (fun g hg=>(own_5.out.lt g hg).1));clear hown hgrow;refine⟨HB6.out,fun hH=>?_⟩;simp only[jq];refine jT 7 (.assign (.tmp 53)) (some 2) (.int .u32 (G:Int)) hH ?_;simp only[jq];refine jT 8 (.assign (.tmp 58)) (some 3) (.slice a6 N c6) hH ?_;simp only[jq];refine jT 9 (.assign (.const (.bool true))) (some 4) (.bool true) hH ?_;simp only[jq];refine wpAnyH_done (by kernel_rfl) ?_ _;go_wp2_with fail
            go_ret3
            exact⟨aB HWS.out HB6.out,.inr ⟨G,(s.drop 2).take N,_,HF.out,rfl,by rw[HNL.out];exact Sn.own HO6.out⟩⟩
def U8(p:List Int):List UInt8:=p.map fun c=>UInt8.ofNat c.toNat
def SBi(p:List Int):ByteArray:=⟨(U8 p).toArray⟩
theorem oC(p:List Int):(U8 p).length=p.length:=by simp[U8]
theorem LV{p:List Int}(hb:Bys p)(j:Nat)(hj:j<p.length):((U8 p)[j]'(by rw[oC];exact hj)).toNat=(p[j]:Int):=by
 have:=hb p[j] (List.getElem_mem hj);unfold U8;rw[List.getElem_map,UInt8.toNat_ofNat'];omega
theorem GH:∀ {p q:List Int},Bys p→Bys q→U8 p=U8 q→p=q
 | [],[],_,_,_=>rfl
 | [],c :: q,_,_,h=>by simp[U8] at h
 | c :: p,[],_,_,h=>by simp[U8] at h
 | c :: p,e :: q,hp,hq,h=>by
  have hc:=hp c (by simp);have he:=hq e (by simp);unfold U8 at h;rw[List.map_cons,List.map_cons,List.cons.injEq] at h;have h1:=congrArg UInt8.toNat h.1;rw[UInt8.toNat_ofNat',UInt8.toNat_ofNat'] at h1;rw[show c=e by omega,GH (fun x h=>hp x (by simp[h])) (fun x h=>hq x (by simp[h])) h.2]
theorem KV{w:World}{p:List Int}{A:Option Addr}{cap:Nat}(h:Sn w 1 (.slice A p.length cap) p.length (u8s p))(hb:Bys p):(convert 78 9 (.slice A p.length cap)).run Tryz.prog w = .ok (.string (SBi p)) w:=by
 obtain⟨A',cap',hv,_,_,hx⟩:=h;injection hv with hA _ _
 subst hA;cases A with
 | none=>
  have hp:p=[]:=by
   rcases Nat.eq_zero_or_pos p.length with h|h
   ·exact List.eq_nil_of_length_eq_zero h
   ·obtain⟨b,off,e,_⟩:=hx h;cases e
  subst hp;rw[run_convert_bytes_nil w 78 5 Tryz.underlying78 Tryz.underlying5 _ _ _ Tryz.underlying9];rfl
 | some a=>
  have:=run_convert_bytes_back w 78 9 5 a cap (U8 p) Tryz.underlying78 Tryz.underlying5 Tryz.underlying9 (fun j hj=>by
   have hj':j<p.length:=by rw[← oC];exact hj
   obtain⟨b,off,e,hc⟩:=hx (by omega)
   injection e with e
   subst e
   rw[Addr.add_lit,LV hb j hj']
   exact hc j _ (by simp[u8s,hj']))
  rw[oC] at this;exact this
theorem wV(s:List Int)(w:World)(hl:s.length=64)(hb:Bys s):
  Calls Tryz.prog 152 #[.agg (u8s s).toArray] w fun e w'=>Below w.heap.size w w' ∧
   ((fH s=none∧e = .returned (.tuple #[.int .u32 0,.bool false]))∨(∃ g,fH s=some g∧e = .returned (.tuple #[.int .u32 g,.bool true]))):=by
 have hul:(u8s s).length=64:=by rw[aP,hl]
 have hB1:=Blk.new w 144 (u8s s).toArray;have hr1:=hB1.range;rw[jt] at hr1;have HR1:=jz hr1;have hb1:Below w.heap.size w (w.alloc (.cells (u8s s).toArray 144)):=aN _ _;clear hB1 hr1;go_enter Tryz.func152,Tryz.ntmps152
 go_wp2_with (refine ld 144 _ rfl rfl rfl HR1.out Tryz.underlying144 rfl (by rw[hul];kernel_rfl) ?_)
 refine(pG s _ hl hb).mono ?_;rintro e w2 ⟨hb2,⟨hn,rfl⟩|⟨g,p,v,hp,rfl,hs⟩⟩
 ·have hb20:=aB hb1 hb2;have HN:Hid (fH s=none):=jz (by unfold fH;rw[hn]);clear hn;go_wp2_with fail
  go_ret2
  exact⟨hb20,.inl ⟨HN.out,rfl⟩⟩
 ·have hb20:=aB hb1 hb2;have HP:=jz hp;have HBP:=jz (nC hb hp);obtain⟨A,cap,rfl⟩:=hs.slc;have hcv:=KV hs HBP.out;have HBF:=jz hb20;obtain⟨S,hS⟩:=je (SBi p);rw[← hS] at hcv;have HSS:=jz hS;clear hp hs hb2 hb20 hb1 hS;by_cases t1:p=toll
  ·have hs1:S=ByteArray.mk #[84,79,76,76]:=by rw[HSS.out,t1];rfl
   subst hs1;have HV:Hid (fH s=some g):=jz (by unfold fH;rw[HP.out];simp only;rw[if_pos t1]);clear t1;go_wp2_with fail
   go_ret2
   exact⟨HBF.out,.inr ⟨g,HV.out,rfl⟩⟩
  ·have hs1:(S.toList == [84,79,76,76])=false:=by
    rw[HSS.out,ByteArray.toList_eq,beq_eq_false_iff_ne];intro e;have e:U8 p=U8 toll:=e;exact t1 (GH HBP.out jD e)
   have HV:Hid (fH s=none):=jz (by unfold fH;rw[HP.out];simp only;rw[if_neg t1]);clear t1;go_wp2_with fail
   go_ret2
   exact⟨HBF.out,.inl ⟨HV.out,rfl⟩⟩
def kO:Array Value:=#[.slice none 0 0,.bool false]
def rdrF:Array Value:=#[.slice none 0 0,.bool true]
theorem lN:∀ w,(zeroValue 248).run Tryz.prog w = .ok (.agg kO) w:=fun w=>by unfold kO;kernel_rfl
theorem pX:(Tryz.prog.info? 248).map (·.size)=some 2:=by kernel_rfl
theorem yX(A:Option Addr)(n cap:Nat):Tryz.prog.built 248 [(0,.slice A n cap)]=some #[.slice A n cap,.bool false]:=by kernel_rfl
theorem qG(A:Option Addr)(n cap:Nat)(b:Bool):(#[Value.slice A n cap,.bool b]:Array Value).all (·.oneCell')=true:=by
 cases b <;> simp[Value.oneCell']
theorem EQ:Tryz.prog.built 248 [(1,.bool true)]=some rdrF:=by unfold rdrF;kernel_rfl
theorem AN(w:World):Calls Tryz.prog 165 #[] w fun e w'=>e = .returned (.agg rdrF)∧Below w.heap.size w w':=by
 have HB0:Hid (Blk (w.alloc (.cells kO 248)) w.heap.size 248 kO):=jz (Blk.new w _ _);have HA0:Hid (Below w.heap.size w (w.alloc (.cells kO 248))):=jz (aN _ _);have h1:rdrF.all (·.oneCell')=true:=qG _ _ _ _;go_enter Tryz.func165,Tryz.ntmps165
 go_wp2_with (first
  | (refine al 248 kO rfl rfl lN ?_)
  | (refine bld 248 #[(1,.const (.bool true))] rfl rfl rfl EQ ?_)
  | (refine bC (cells:=rdrF) 248 (.tmp 0) (.tmp 1) rfl rfl rfl rfl HB0.out pX rfl h1 ?_;intro w4 hB4 hb4 ho4 hs4;have HB4:=jz hB4;have HE4:=jz hb4;clear hB4 hb4 ho4 hs4))
 exact bodyPost_ret (results_cell_row rfl _ _ w.heap.size 248 _ (0,0) _ rfl HB4.out Tryz.underlying248 rfl pX) rfl ⟨rfl,HA0.trans HE4.out⟩
theorem AO(v:Value)(xs:List Int)(bad:Bool)(n:Int)(w:World)(hs:Sn w 1 v xs.length (u8s xs))(hn:aK n)(hl:xs.length≤1000000000):
    Calls Tryz.prog 166 #[.agg #[v,.bool bad],.int .i64 n] w fun e w'=>Below w.heap.size w w' ∧
      (((bad = true ∨ n < 0 ∨ (xs.length : Int) < n) ∧ e = .returned (.tuple #[.agg rdrF, .slice none 0 0])) ∨
       (∃ m v2 v3,bad=false∧n=(m:Nat)∧m≤xs.length∧e = .returned (.tuple #[.agg #[v2,.bool false],v3])∧Sn w' 1 v2 (xs.drop m).length (u8s (xs.drop m))∧w'.ownsRow w.heap.size 5 1 v3 m (u8s (xs.take m)))):=by
  obtain⟨A,cap,rfl,hcap,_,_⟩:=id hs;have a1 : -9223372036854775808≤n:=hn.1;have a2:n≤9223372036854775807:=hn.2;have hl0:(xs.length:Int)≤1000000000:=by omega
  obtain⟨w1,hw1⟩:=je ((w.alloc (.cells #[.slice A xs.length cap,.bool bad] 248)).alloc (.cells kO 248));have hA1:Blk w1 w.heap.size 248 #[.slice A xs.length cap,.bool bad]:=by rw[hw1];exact(Blk.new _ _ _).alloc _
  have hB1:Blk w1 (w.heap.size+1) 248 kO:=by rw[hw1];exact Blk.newAt _ _ _ _ (by simp)
  have hb1:Below w.heap.size w w1:=by rw[hw1];exact aB (aN _ _) (aN _ _)
  have hsz1:w1.heap.size=w.heap.size+2:=by rw[hw1];simp
  have hc0:=hA1.cell 0;have hc1:=hA1.cell 1;simp only[List.getElem?_toArray,List.getElem?_cons_zero,List.getElem?_cons_succ] at hc0 hc1;have HA1:=jz hA1;have HB1:=jz hB1;have HW1:=jz hb1;have HS:=jz hs;have h1:rdrF.all (·.oneCell')=true:=qG _ _ _ _;have HCAP:=jz hcap;clear hA1 hB1 hb1 hs hn hcap;by_cases hf:bad=true∨n<0∨(xs.length:Int)<n
  · have HF:=jz hf;have hf3:bad=true∨(bad=false∧n<0)∨(bad=false∧0≤n∧(xs.length:Int)<n):=by
      cases bad
      · rcases hf with h|h|h
        · cases h
        · exact .inr (.inl ⟨rfl,h⟩)
        · exact .inr (.inr ⟨rfl,by omega,h⟩)
      · exact .inl rfl
    clear hf;rcases hf3 with rfl|⟨rfl,t1⟩|⟨rfl,t1,t2⟩
    all_goals
      go_enter Tryz.func166,Tryz.ntmps166
      go_upto_region 1 with (refine al 248 kO rfl rfl lN ?_)
      rw[← hw1];clear hw1;go_wp2_with (first
        | (go_at_call 165;refine(AN w1).mono ?_;rintro e w2 ⟨rfl,hb2⟩;have HB2:=jz hb2;clear hb2)
        | (refine bC (cells:=rdrF) 248 (.tmp 4) (.tmp 19) rfl rfl rfl rfl (HB1.keep HB2.out) pX rfl h1 ?_;intro w4 hB4 hb4 ho4 hs4;have HB4:=jz hB4;have HE4:=jz hb4;clear hB4 hb4 ho4 hs4))
      have hr4:=HB4.range;exact bodyPost_ret (aJ rfl _ rfl hr4 Tryz.underlying248 rfl pX) rfl ⟨(aB HW1.out HB2.out).trans (HE4.mono (by omega)),.inl ⟨HF.out,rfl⟩⟩
  · obtain⟨m,rfl⟩:=Int.eq_ofNat_of_zero_le (show 0≤n from by simp only[not_or] at hf;omega);obtain⟨rfl,hm⟩:bad=false∧m≤xs.length:=by
      simp only[not_or] at hf;exact⟨by cases bad <;> simp_all,by omega⟩
    have t1:¬((m:Int)<0):=by omega
    have t2:decide (xs.length<m)=false:=decide_eq_false (by omega);clear hf;go_enter Tryz.func166,Tryz.ntmps166
    go_upto_region 1 with (refine al 248 kO rfl rfl lN ?_)
    rw[← hw1];clear hw1;go_upto_region 3 with fail
    clear t1 t2 hc0 hc1;obtain⟨wS,hwS⟩:=je w1.drew;have HR0:Hid (Below wS.heap.size wS wS):=jz (Below.refl _ _);have HWS:Hid (Below w.heap.size w wS):=jz (by rw[hwS];exact HW1.drew);have HAS:Hid (∀ W,Below wS.heap.size wS W→Blk W w.heap.size 248 #[.slice A xs.length cap,.bool false]):=jz (fun W hb=>(HA1.keep (by rw[hwS];exact(Below.refl _ _).drew)).keep hb);have HBS:Hid (∀ W,Below wS.heap.size wS W→Blk W (w.heap.size+1) 248 kO):=jz (fun W hb=>(HB1.keep (by rw[hwS];exact(Below.refl _ _).drew)).keep hb);have HSS:Hid (∀ W,Below wS.heap.size wS W→Sn W 1 (.slice A xs.length cap) xs.length (u8s xs)):=jz (fun W hb=>(HS.below HWS.out).below hb);have HC0:Hid (∀ W,Blk W w.heap.size 248 #[.slice A xs.length cap,.bool false]→W.cell? ⟨w.heap.size,0,none⟩=some (.slice A xs.length cap)):=jz (fun W h=>by have:=h.cell 0;simpa using this);have hcap:=HCAP.out;have HT:Hid (u8s (xs.take m)=(u8s xs).take m∧u8s (xs.drop m)=(u8s xs).drop m∧(xs.drop m).length=xs.length-m):=jz ⟨by simp[u8s],by simp[u8s],by simp⟩;have HTK:Hid (∀ W,Below wS.heap.size wS W→Sn W 1 (sliced A 0 m cap 1) m (u8s (xs.take m))):=jz (fun W hb=>by
      have:=(HSS.out W hb).sliced 0 m cap (Nat.zero_le _) hm (by omega)
      rw[Nat.zero_mul,List.drop_zero,Nat.mul_one,← HT.out.1] at this
      exact this)
    have HDR:Hid (∀ W,Sn W 1 (.slice A xs.length cap) xs.length (u8s xs)→Sn W 1 (sliced A m xs.length cap 1) (xs.drop m).length (u8s (xs.drop m))):=jz (fun W h=>by
      have:=h.sliced m xs.length cap hm (Nat.le_refl _) hcap
      rw[Nat.mul_one,Nat.mul_one,List.take_of_length_le (by rw[aP];exact Nat.le_refl _),← HT.out.2.1] at this
      rw[HT.out.2.2]
      exact this)
    obtain⟨AD,cD,hD⟩:∃ AD cD,sliced A m xs.length cap 1 = .slice AD (xs.length-m) cD:=⟨_,_,rfl⟩;obtain⟨AT,cT,hT⟩:∃ AT cT,sliced A 0 m cap 1 = .slice AT m cT:=⟨_,_,rfl⟩;have HSL1:Hid (∀ W,(Instr.slice 78 (.slice A xs.length cap) (some (.int .i64 (m:Int))) none none).run Tryz.prog W = .ok (.slice AD (xs.length-m) cD) W):=jz (fun W=>by
      rw[← hD]
      exact(run_slice_l (P:=Tryz.prog) (w:=W) 78 A xs.length cap (by kernel_rfl) .i64 m (by omega) (by omega)).trans (by kernel_rfl))
    have HSL2:Hid (∀ W,(Instr.slice 78 (.slice A xs.length cap) none (some (.int .i64 (m:Int))) none).run Tryz.prog W = .ok (.slice AT m cT) W):=jz (fun W=>by
      rw[← hT]
      exact(run_slice_h (P:=Tryz.prog) (w:=W) 78 A xs.length cap (by kernel_rfl) .i64 m (by omega) (by omega)).trans (by kernel_rfl))
    rw[hD] at HDR;rw[hT] at HTK;clear hD hT;refine aQ 13 (fun W=>Blk W w.heap.size 248 #[.slice A xs.length cap,.bool false]) (by kernel_rfl) (by kernel_rfl) (by rw[← hwS];exact HAS.out _ HR0.out) (fun hH=>?_);rw[← hwS] at hH ⊢;clear hwS;have hSS:∀ W:World,Below wS.heap.size wS W→Blk (W.setCells (w.heap.size+1) 0 [.slice AD (xs.length-m) cD,.bool false]) w.heap.size 248 #[.slice A xs.length cap,.bool false]:=fun W hb=>(bA (by omega) _ _ _).trans (HAS.out W hb)
    refine jT 0 (.fieldAddr 248 (.tmp 2) 0) (some 20) (.pointer (some ⟨w.heap.size,0,none⟩)) hH ?_;simp only[jq];refine jT 1 (.load 78 (.tmp 20)) (some 21) (.slice A xs.length cap) (hy:=fun o ho wX hX=>by have hq:=HC0.out wX hX;unfold execOp;simp only[ho];go_simp) hH ?_;simp only[jq];refine jM 2 (.tmp 1) (some 22) (.int .i64 (m:Int)) hH ?_;simp only[jq];refine jT 3 (.slice 78 (.tmp 21) (some (.tmp 22)) none none) (some 23) (.slice AD (xs.length-m) cD) (hy:=fun o ho wX hX=>by have hq:=HSL1.out wX;unfold execOp;simp only[ho];go_simp) hH ?_;simp only[jq];refine lE 4 248 #[(0,.tmp 23)] (some 24) (vs:=[(0,.slice AD (xs.length-m) cD)]) (cells:=#[.slice AD (xs.length-m) cD,.bool false]) (by kernel_rfl) (by kernel_rfl) (by kernel_rfl) (by kernel_rfl) (by kernel_rfl) (fun _ _ _ h=>h) (by rfl) (yX _ _ _) hH ?_;simp only[jq];refine jT 6 (.fieldAddr 248 (.tmp 2) 0) (some 26) (.pointer (some ⟨w.heap.size,0,none⟩)) hH ?_;simp only[jq];refine jT 7 (.load 78 (.tmp 26)) (some 27) (.slice A xs.length cap) (hy:=fun o ho wX hX=>by have hq:=HC0.out wX hX;unfold execOp;simp only[ho];go_simp) hH ?_;simp only[jq];refine jM 8 (.tmp 1) (some 28) (.int .i64 (m:Int)) hH ?_;simp only[jq];refine jT 9 (.slice 78 (.tmp 27) none (some (.tmp 28)) none) (some 29) (.slice AT m cT) (hy:=fun o ho wX hX=>by have hq:=HSL2.out wX;unfold execOp;simp only[ho];go_simp) hH ?_;simp only[jq];refine jW [5] ?_;refine jS 5 (.buildSlice 78 0 #[]) (some 25) (.slice (some ⟨wS.heap.size,0,none⟩) 0 0) (wS.alloc (.cells #[] 5)) (by have HQ:=jz (aB HR0.out (aN wS (.cells #[] 5)));exact HAS.out _ HQ.out) ?_ jN;simp only[jq];obtain⟨wq1,hw1⟩:=je (wS.alloc (.cells #[] 5));have hB1:Below wS.heap.size wS wq1:=by rw[hw1];exact aN _ _
    have HB1:=jz (aB HR0.out hB1);have HO1:Hid (wq1.ownsRow wS.heap.size 5 1 (.slice (some ⟨wS.heap.size,0,none⟩) 0 0) 0 []):=jz (by rw[hw1];exact cI wS #[] 5 1 0 wS.heap.size _ HR0.size rfl (by decide) rfl);rw[← hw1];clear hw1;have hH:=HAS.out _ HB1.out;refine jW [10] ?_;refine bZ 10 pS (.tmp 25) (.tmp 29) (some 30) (by kernel_rfl) (by kernel_rfl) (by rfl) HO1.out (by rfl) (HTK.out _ HB1.out) (bS _) (by unfold maxLen;omega) (by omega) HB1.size (fun v2 wq2 hown hgrow _=>?_) jN;rw[List.nil_append,Nat.zero_add] at hown;obtain⟨a2,c2,hv2,_,_⟩:=aU hown;subst hv2;have HO2:=jz hown;have HB2:Hid (Below wS.heap.size wS wq2):=jz (HB1.grown hgrow HB1.size (fun g hg=>(HO1.lt g hg).1));clear hown hgrow;refine⟨HAS.out _ HB2.out,fun hH=>?_⟩;simp only[jq];refine jW [11] ?_;refine jR 11 248 (.tmp 4) (.tmp 24) none (cs:=[.slice AD (xs.length-m) cD,.bool false]) (aF (HBS.out _ HB2.out) rfl) pX (by intro u hu;simp only[List.mem_cons,List.not_mem_nil,or_false] at hu;rcases hu with rfl|rfl <;> rfl) (hSS wq2 HB2.out) ?_ jN;simp only[jq];have hH:=hSS wq2 HB2.out;refine jT 12 (.assign (.tmp 30)) (some 5) (.slice a2 m c2) hH ?_;simp only[jq];refine wpAnyH_done (by kernel_rfl) ?_ _;have HBZ:Hid (Blk (wq2.setCells (w.heap.size+1) 0 [.slice AD (xs.length-m) cD,.bool false]) (w.heap.size+1) 248 #[.slice AD (xs.length-m) cD,.bool false]):=jz (Blk.setAll _ (HBS.out _ HB2.out) rfl);have hoth:∀ k,k≠w.heap.size+1→(wq2.setCells (w.heap.size+1) 0 [.slice AD (xs.length-m) cD,.bool false]).heap[k]? = wq2.heap[k]?:=fun k hk=>bA hk _ _ _
    have HBW:Hid (Below w.heap.size w (wq2.setCells (w.heap.size+1) 0 [.slice AD (xs.length-m) cD,.bool false])):=jz ((aB HWS.out HB2.out).trans (aO (by omega) _ _ _).1);have hlt:=(HBS.out _ HR0.out).lt;have HOZ:=jz (bU (w':=(wq2.setCells (w.heap.size+1) 0 [.slice AD (xs.length-m) cD,.bool false])) HO2.out (fun b hb=>hoth b (by have:=(World.ownsRow.lt HO2.out b hb).1;omega)));have HDZ:=jz (HDR.out (wq2.setCells (w.heap.size+1) 0 [.slice AD (xs.length-m) cD,.bool false]) ((HS.below HBW.out)));obtain⟨wz,hwz⟩:=je ((wq2.setCells (w.heap.size+1) 0 [.slice AD (xs.length-m) cD,.bool false]));rw[← hwz] at HBZ HBW HOZ HDZ ⊢;clear hwz hoth hH;go_wp2_with fail
    have hr7:=HBZ.range;exact bodyPost_ret (aJ rfl _ rfl hr7 Tryz.underlying248 rfl pX) rfl ⟨HBW.out,.inr ⟨m,_,_,by trivial,by trivial,hm,rfl,HDZ.out,dI HOZ.out HWS.size⟩⟩
theorem wW(v:Value)(xs:List Int)(bad:Bool)(k:Nat)(w:World)(hs:Sn w 1 v xs.length (u8s xs))(hb:Bys xs)(hk1:1≤k)(hk8:k≤8)(hl:xs.length≤1000000000):
    Calls Tryz.prog 161 #[.agg #[v,.bool bad],.int .i64 k] w fun e w'=>Below w.heap.size w w' ∧
      (((bad = true ∨ xs.length < k) ∧ e = .returned (.tuple #[.agg rdrF, .int .u64 0])) ∨
       (bad=false∧k≤xs.length∧∃ v2,e = .returned (.tuple #[.agg #[v2,.bool false],.int .u64 (beN (xs.take k))])∧Sn w' 1 v2 (xs.drop k).length (u8s (xs.drop k)))):=by
  obtain⟨A,cap,rfl,hcap,_,_⟩:=id hs;obtain⟨w1,hw1⟩:=je ((w.alloc (.cells #[.slice A xs.length cap,.bool bad] 248)).alloc (.cells kO 248));have hA1:Blk w1 w.heap.size 248 #[.slice A xs.length cap,.bool bad]:=by rw[hw1];exact(Blk.new _ _ _).alloc _
  have hB1:Blk w1 (w.heap.size+1) 248 kO:=by rw[hw1];exact Blk.newAt _ _ _ _ (by simp)
  have hb1:Below w.heap.size w w1:=by rw[hw1];exact aB (aN _ _) (aN _ _)
  have hsz1:w1.heap.size=w.heap.size+2:=by rw[hw1];simp
  have hr1:=hA1.range;have HR1:=jz hr1;have HB1:=jz hB1;have HW1:=jz hb1;have HTK:=jz (AO (.slice A xs.length cap) xs bad k w1 (hs.below hb1) ⟨by omega,by omega⟩ hl);have HBY:=jz hb;have h1:(1:Int)≤k:=by omega
  have h8:(k:Int)≤8:=by omega
  clear hA1 hB1 hb1 hs hr1 hb hcap;go_enter Tryz.func161,Tryz.ntmps161
  go_upto_region 1 with (refine al 248 kO rfl rfl lN ?_)
  rw[← hw1];clear hw1;go_wp2_with (refine ld 248 _ rfl rfl rfl HR1.out Tryz.underlying248 rfl pX ?_)
  refine HTK.mono ?_;rintro e w2 ⟨hb2,hres⟩;have hu:∃(B:Option Addr) (n c:Nat) (b:Bool) (ys:List Int) (B3:Option Addr) (c3:Nat),e = .returned (.tuple #[.agg #[.slice B n c,.bool b],.slice B3 ys.length c3])∧Sn w2 1 (.slice B3 ys.length c3) ys.length (u8s ys)∧ys.length≤8∧Bys ys ∧
      (((bad=true∨xs.length<k)∧B=none∧n=0∧c=0∧b=true∧ys=[])∨(bad=false∧k≤xs.length∧b=false∧ys=xs.take k∧n=(xs.drop k).length∧Sn w2 1 (.slice B n c) (xs.drop k).length (u8s (xs.drop k)))):=by
    rcases hres with ⟨hf,rfl⟩|⟨m,v2,v3,h1,h2,h3,rfl,h4,h5⟩
    · exact⟨none,0,0,true,[],none,0,rfl,Sn.nil _ _,by simp,(fun c hc=>by cases hc),.inl ⟨hf.imp id (fun h=>h.elim (fun h=>absurd h (by omega)) (fun h=>by omega)),rfl,rfl,rfl,rfl,rfl⟩⟩
    · obtain rfl:k=m:=by omega
      obtain⟨B,c,rfl,_⟩:=id h4;obtain⟨B3,c3,rfl,hsn,_⟩:=aU h5;have hlen:(xs.take k).length=k:=by rw[List.length_take];omega
      refine⟨B,(xs.drop k).length,c,false,xs.take k,B3,c3,by rw[hlen],by rw[hlen];exact hsn,by omega,fun c hc=>HBY.out c (List.mem_of_mem_take hc),.inr ⟨h1,h3,rfl,rfl,rfl,h4⟩⟩
  obtain⟨B,n,c,b,ys,B3,c3,rfl,hsy,hyl,hyb,hfin⟩:=hu;have HFIN:=jz hfin;have HSY:=jz hsy;have HYB:=jz hyb;have HB2:=jz hb2;have hone:(#[Value.slice B n c,.bool b]:Array Value).all (·.oneCell')=true:=qG _ _ _ _;clear hres hfin hsy hyb hb2 HR1;go_upto_region 4 with (first
    | (refine al 248 kO rfl rfl lN ?_)
    | (refine cR (cells:=#[.slice B n c,.bool b]) 248 (.tmp 6) (.tmp 21) rfl rfl rfl rfl pX rfl hone ?_;intro w3 hB3 hb3 hs3))
  have hlt2:w.heap.size+2≤w2.heap.size:=by have:=HB2.size;omega
  have HB3:Hid (Blk w3 w2.heap.size 248 #[.slice B n c,.bool b]):=jz hB3;have HZ3:Hid (Blk w3 (w.heap.size+1) 248 kO):=jz (((HB1.keep HB2.out)).keep hb3);have HW3:Hid (Below w.heap.size w w3):=jz (aB (aB HW1.out HB2.out) hb3);have HE3:=jz hb3;have HS3:Hid (Sn w3 1 (.slice B3 ys.length c3) ys.length (u8s ys)):=jz (HSY.below hb3);clear hB3 hb3 hs3 HB1 HW1 HSY;have hyl8:(ys.length:Int)≤8:=by omega
  go_wp2_with fail
  go_loopw [8,9] (fun x i wr=>∃ j:Nat,wr=w3∧j≤ys.length∧i = .int .i64 (j:Int)∧x = .int .u64 (beN (ys.take j):Int)) (fun _ i _=>ys.length-(intOf i).toNat)
  case atStart=>exact⟨0,rfl,Nat.zero_le _,rfl,rfl⟩
  case round=>
    obtain⟨j,rfl,hj,rfl,rfl⟩:=hrel;rcases Nat.lt_or_ge j ys.length with hlt|hge
    · obtain⟨q,off,rfl,hr⟩:=HS3.range j hlt;have hc:∃ cc:Nat,cc<256∧ys[j]=(cc:Int):=by
        have:=HYB.out ys[j] (List.getElem_mem hlt);exact⟨ys[j].toNat,by omega,by omega⟩
      obtain⟨cc,hc1,hc2⟩:=hc;have e0:wr.cell? ⟨q,off+j,none⟩=some (.int .u8 (cc:Int)):=by
        have:=hr 0 (.int .u8 (cc:Int)) (by simp[u8s,hlt,← hc2]);rw[Nat.mul_one] at this;exact this
      have HN:Hid (beN (ys.take (j+1))=beN (ys.take j)*256+cc):=jz (by rw[qM _ _ hlt,hc2];rfl);have hbd:beN (ys.take j)<256 ^ 7:=by
        have h:=jO (ys.take j) (fun c hc=>HYB.out c (List.mem_of_mem_take hc));rw[List.length_take,Nat.min_eq_left (by omega)] at h;exact Nat.lt_of_lt_of_le h (Nat.pow_le_pow_right (by decide) (by omega))
      obtain⟨X,hX⟩:=je (beN (ys.take j));rw[← hX] at HN hbd ⊢;have hX0:(0:Int)≤X:=by omega
      have hX1:(X:Int)≤72057594037927935:=by omega
      have hi0:(0:Int)≤j:=by omega
      have hi1:(j:Int)<ys.length:=by omega
      have hcc:(cc:Int)≤255:=by omega
      clear hr hc2 hX hbd;go_wp2_with fail
      exact⟨⟨j+1,by trivial,by omega,by go_num,by rw[HN.out];exact congrArg (Value.int .u64) (by omega)⟩,by simp[intOf];omega⟩
    · obtain rfl:j=ys.length:=by omega
      have hr3:=HB3.range;have HR3:=jz hr3;have hlt3:w.heap.size+1<w2.heap.size:=by omega
      clear hr3;rw[List.take_length];obtain⟨X,hX⟩:=je (beN ys);rw[← hX];have HX:=jz hX;clear hX;go_wp2_with (first
        | (refine ld 248 _ rfl rfl rfl HR3.out Tryz.underlying248 rfl pX ?_)
        | (refine bC (cells:=#[.slice B n c,.bool b]) 248 (.tmp 4) (.tmp 37) rfl rfl rfl rfl HZ3.out pX rfl hone ?_;intro w4 hB4 hb4 ho4 hs4;have HB4:=jz hB4;have HE4:=jz hb4;have HO4:=jz ho4;clear hB4 hb4 ho4 hs4))
      have hr4:=HB4.range;have hbw:Below w.heap.size w w4:=HW3.trans (HE4.mono (by omega));refine bodyPost_ret (aJ rfl _ rfl hr4 Tryz.underlying248 rfl pX) rfl ⟨hbw,?_⟩;rcases HFIN.out with ⟨h1,rfl,rfl,rfl,rfl,rfl⟩|⟨rfl,h2,rfl,rfl,rfl,h6⟩
      · exact .inl ⟨h1,by rw[HX.out];rfl⟩
      · refine .inr ⟨rfl,h2,_,by rw[HX.out];rfl,?_⟩;have h7:=h6.below HE3.out;rw[List.length_drop] at h7;obtain⟨A6,c6,e6,q1,q2,hx6⟩:=h7;refine⟨A6,c6,by rw[List.length_drop];exact e6,q1,q2,fun hp=>?_⟩;obtain⟨g6,o6,rfl,hcell⟩:=hx6 hp;refine⟨g6,o6,rfl,fun i u hi=>?_⟩;have hg:g6≠w.heap.size+1:=fun e=>by
          have hc:=hcell i u hi;rw[e] at hc;have hz:=HZ3.cell (o6+i);rw[hz] at hc;have hu:∃ z,u = .int .u8 z:=by
            unfold u8s at hi;rw[List.getElem?_map] at hi;cases hq:(xs.drop k)[i]? with
            | none=>rw[hq] at hi;cases hi
            | some z=>rw[hq] at hi;exact⟨z,(Option.some.inj hi).symm⟩
          obtain⟨z,rfl⟩:=hu;unfold kO at hc;generalize o6+i=o at hc
          match o with
          | 0=>cases hc
          | 1=>cases hc
          | o+2=>simp at hc
        exact(World.cell?_of_block (a:=⟨g6,o6+i,none⟩) (HO4.out g6 hg)).trans (hcell i u hi)
end Go.Proofs.YtombncedfleljaaGreat
