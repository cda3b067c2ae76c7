import Derived.Test.YtombncedfleljaaGreatMC33
import Derived.Test.YtombncedfleljaaGreatMC31
set_option linter.unusedSimpArgs false
set_option maxRecDepth 100000
set_option maxHeartbeats 40000000
namespace Go.Proofs.YtombncedfleljaaGreat
section
set_option maxRecDepth 100000
open Go.RowKit
attribute [local irreducible] wpQuiet wpAnyH
theorem pM(va:Value)(L:List (List Int×Int))(e:List Int×Int)(w:World)(hs:Sn w 33 va L.length (L.flatMap aC))(hok:∀ p∈L,EntOk p)(hl:L.length≤1000)(he:EntOk e):
    Calls Tryz.prog 12 #[va,.agg (aC e).toArray] w fun r w'=>∃ v,r = .returned (.tuple #[v,.bool (aM L e).2])∧Sn w' 33 v (aM L e).1.length ((aM L e).1.flatMap aC)∧Below w.heap.size w w'∧∀ b,v.ownBlock=some b→va.ownBlock=some b∨(w.heap.size≤b∧b<w'.heap.size):=by
  obtain⟨A,cap,rfl,hcap,_,_⟩:=id hs;have HS:=jz hs;have HOK:=jz hok;clear hs hok;have hbA:Below w.heap.size w (w.alloc (.cells (aC e).toArray 35)):=(by repeat (first|exact Below.refl _ _|assumption|refine bR ?_ _|refine Below.setCell ?_ (by first|exact Nat.le_refl _|assumption|omega|(simp <;> omega)) _|refine Below.alloc ?_ (by first|exact Nat.le_refl _|assumption|omega|(simp <;> omega)) _));have hre:=(Blk.new w 35 (aC e).toArray).range;rw[jt] at hre;have hsA:(w.alloc (.cells (aC e).toArray 35)).heap.size=w.heap.size+1:=by simp
  go_enter Tryz.func12,Tryz.ntmps12
  go_wp2_with fail
  obtain⟨w1,hw1⟩:=je (w.alloc (.cells (aC e).toArray 35));rw[← hw1] at hbA hre hsA ⊢;clear hw1;have HRE:=jz hre;have HHE:=jz he;have hs1:=HS.below hbA;have hle:=aH e he;have HEL:=jz hle;clear hre;go_loopw [6,7,8] (fun m pl i wr=>∃(k:Nat) (p:Bool),k≤L.length∧i = .int .i64 k∧pl = .bool p∧p=(j9 (L.take k) e).2∧Hid (∀ q∈L.take k,fC e q=false)∧wr.ownsRow w1.heap.size 35 33 m (j9 (L.take k) e).1.length ((j9 (L.take k) e).1.flatMap aC)∧Below w1.heap.size w1 wr) (fun _ _ i _=>L.length-(intOf i).toNat)
  case atStart=>exact⟨0,false,Nat.zero_le _,rfl,rfl,rfl,jz (by simp),World.ownsRow_nil _ _ _ _,Below.refl _ _⟩
  case round=>
    obtain⟨k,p,hk,rfl,rfl,hp,hno,hown,hb⟩:=hrel;by_cases hlt:k<L.length
    · obtain⟨b,off,rfl,hr⟩:=gH aC EntOk 33 aH (hs1.below hb) HOK.out k hlt;clear hr;have HQ0:Hid (∀ w',Below w1.heap.size w1 w'→w'.rangeAt b (off+k*33) (aC L[k])):=jz (fun w' hb'=>by
        obtain⟨b',off',hA,hr'⟩:=gH aC EntOk 33 aH (hs1.below hb') HOK.out k hlt
        injection hA with hA
        injection hA with h1 h2 _
        subst h1 h2
        exact hr')
      have HE0:Hid (∀ w',Below w1.heap.size w1 w'→w'.rangeAt w.heap.size 0 (aC e)):=jz (fun w' hb' j u hj=>Below.cell' hb' (HRE.out j u hj));have HPK:=jz (HOK.out L[k] (List.getElem_mem hlt));have hstep:=jz (EV L e k hlt);have hsnoc:Hid (fC e L[k]=false→∀ q∈L.take (k+1),fC e q=false):=jz (fun hf q hq=>by
        rw[List.take_succ_eq_append_getElem hlt,List.mem_append] at hq
        rcases hq with hq|hq
        · exact hno.out q hq
        · obtain rfl:q=L[k]:=by simpa using hq
          exact hf)
      have hstop:Hid (fC e L[k]=true→aM L e=(L,false)):=jz (fun hf=>by
        unfold aM
        rw[if_pos (List.any_eq_true.2 ⟨_,List.getElem_mem hlt,hf⟩)])
      obtain⟨q,hq⟩:=je (L[k]);have hOl:=sG (L.take k) e;rw[List.length_take,Nat.min_eq_left (by omega)] at hOl;obtain⟨⟨O,p'⟩,hO⟩:∃ S,S=j9 (L.take k) e:=⟨_,rfl⟩;rw[← hO] at hown hp hstep hOl;rw[← hq] at HQ0 HPK hstep hsnoc hstop;obtain rfl:p=p':=hp;replace hown:wr.ownsRow w1.heap.size 35 33 u6 O.length (O.flatMap aC):=hown;have hOl1:O.length≤1001:=by have:=hOl.1;simp only at this;omega
      clear hq hO hOl hno;have hpk:=HPK.out;have HQD:=C8 hpk.dig he.dig;have q32:(u8s q.1).length=32:=by simp[u8s,hpk.dig.len]
      have e32:(u8s e.1).length=32:=by simp[u8s,he.dig.len]
      have hq33:=aH q hpk;have hi0:(0:Int)≤k:=by omega
      have hi1:(k:Int)<L.length:=by omega
      obtain⟨hr1,htc⟩:=dP (HQ0.out wr hb) hpk;obtain⟨hr2,hec⟩:=dP (HE0.out wr hb) he;replace hec:wr.cell? ⟨w.heap.size,32,none⟩=some (.int .i64 e.2):=by simpa using hec
      have HR1:=jz hr1;have HR2:=jz hr2;have hud:=Tryz.underlying33;have hua:(Tryz.prog.info? 33).map (·.size)=some (u8s q.1).length:=by rw[q32];kernel_rfl
      have hub:(Tryz.prog.info? 33).map (·.size)=some (u8s e.1).length:=by rw[e32];kernel_rfl
      have hbW:=aB hbA hb;clear hr1 hr2;have hcase:decide (q.1=e.1)=false∨decide (q.1=e.1)=true∧decide (e.2≤q.2)=true∨decide (q.1=e.1)=true∧decide (e.2≤q.2)=false:=by
        cases decide (q.1=e.1) <;> cases decide (e.2≤q.2) <;> simp
      have hsz1:=hb.size;go_wp2_with fail
      rcases hcase with t1|⟨t1,t2⟩|⟨t1,t2⟩
      all_goals
        have heq:=HQD;rw[t1] at heq;refine wp_region_quiet_lit (by kernel_rfl) (by kernel_rfl) ?_
        repeat (first
          | (refine kH 33 (.tmp 18) (by exact rfl) (by exact rfl) (by exact rfl) HR1.out hud rfl hua ?_;simp only[jq])
          | (refine kH 33 (.tmp 20) (by exact rfl) (by exact rfl) (by exact rfl) HR2.out hud rfl hub ?_;simp only[jq])
          | quiet_step (fail))
        refine wpQuiet_nil ?_;intro w2 hw2;obtain⟨nq,hw3⟩:=hw2;have hb2:Below w1.heap.size w1 w2:=by rw[hw3];exact bR hb _
        have hown2:w2.ownsRow w1.heap.size 35 33 u6 O.length (O.flatMap aC):=by rw[hw3];exact hown
        clear hw3 htc hec HR1 HR2 heq
      rotate_left 1
      · go_wp2_with fail
        go_ret2
        rw[hstop.out (by unfold fC;rw[t1,t2];rfl)];exact⟨_,rfl,hs1.below hb2 |>.below (Below.refl _ _),aB hbA hb2,fun b e=>.inl e⟩
      all_goals
        have hq2:=HQ0.out w2 hb2;have he2:=HE0.out w2 hb2;have HQ2:=jz hq2;have HE2:=jz he2;have hqi:(Tryz.prog.info? 35).map (·.size)=some (aC q).length:=by rw[hq33];kernel_rfl
        have hei:(Tryz.prog.info? 35).map (·.size)=some (aC e).length:=by rw[HEL.out];kernel_rfl
        clear hq2 he2;have hsz2:=hb2.size;have HNB:Hid (fC e q=false):=jz (by unfold fC;first|(rw[t1];rfl)|(rw[t1,t2];rfl));have HT:=jz t1;have HQDH:=jz HQD;have HUD:=jz (And.intro hua hub);have HH:=jz (And.intro hqi hei);clear t1;rcases jb p with rfl|rfl
        · clear HQD hud hua hub q32 e32;go_wp2_with fail
          refine wp_region_quiet_lit (by kernel_rfl) (by kernel_rfl) ?_
          repeat quiet_step (fail)
          refine wpQuiet_nil ?_;intro w4 hw4;obtain⟨nq,hw4⟩:=hw4;have hb4:Below w1.heap.size w1 w4:=by rw[hw4];exact bR hb2 _
          have hown4:w4.ownsRow w1.heap.size 35 33 u6 O.length (O.flatMap aC):=by rw[hw4];exact hown2
          obtain⟨O4,p4,hO4,hp4⟩:∃ O4 p4,O4=O∧p4=true:=⟨_,_,rfl,rfl⟩;have hst:Hid (cO e (O,true) q=(if decide (q.1=e.1) then O4 else O4++[q],p4)):=jz (by rw[hO4,hp4];rfl);have hO4l:O4.length≤1002:=by rw[hO4];omega
          rw[← hO4] at hown4;have HP4:=jz hp4;clear hw4 hO4 hp4;go_wp2_with fail
          have t1:=HT.out;have hud:=Tryz.underlying33;have heq:=HQDH.out;rw[t1] at heq;obtain⟨hr1,_⟩:=dP (HQ0.out w4 hb4) hpk;obtain⟨hr2,_⟩:=dP (HE0.out w4 hb4) he;have HR1:=jz hr1;have HR2:=jz hr2;have HHT:=jz t1;clear hr1 hr2 t1;refine wp_region_quiet_lit (by kernel_rfl) (by kernel_rfl) ?_
          repeat (first
            | (refine kH 33 (.tmp 52) (by exact rfl) (by exact rfl) (by exact rfl) HR1.out hud rfl HUD.out.1 ?_;simp only[jq])
            | (refine kH 33 (.tmp 54) (by exact rfl) (by exact rfl) (by exact rfl) HR2.out hud rfl HUD.out.2 ?_;simp only[jq])
            | quiet_step (fail))
          refine wpQuiet_nil ?_;intro w5 hw5;obtain⟨nq5,hw5⟩:=hw5;have hb5:Below w1.heap.size w1 w5:=by rw[hw5];exact bR hb4 _
          have hown5:=aX hown4 (Below.refl w4.heap.size w4);replace hown5:=aX hown4 (show Below w4.heap.size w4 w5 by rw[hw5];exact bR (Below.refl _ _) _);have hoA:=aX hown5 (mD (Below.refl _ w5) (.cells (aC q).toArray 35));have hnA:=Sn.new w5 (aC q).toArray 35 33 1 (by simp[hq33]);have hbuild:=iC (aC q) 33 hq33;have HQ5:=jz (HQ0.out w5 hb5);have hsz5:=hb5.size;clear hw5 heq HR1 HR2;go_wp2_with (first
            | (refine ld 35 _ rfl rfl rfl HQ5.out Tryz.underlying35 rfl HH.out.1 ?_)
            | (at_builtin;refine app sF (.tmp 57) (.tmp 62) rfl rfl rfl hoA rfl hnA (fun u hu=>uS q u (by simpa using hu)) (by unfold maxLen;omega) (by omega) (by simp;omega) ?_;intro v6 w6 hown6 hg6 _))
          have t1:=HHT.out
          first
            | (have hb6 : Below w1.heap.size w1 w6 := (hb5.alloc hb5.size (.cells (aC q).toArray 35)).grown hg6 (by simp; omega) (fun g hg => (hoA.lt g hg).1)
               refine ⟨⟨k + 1, _, by omega, by go_num, rfl, by rw [hstep.out, hst.out]; exact HP4.out.symm, Lib.hid (hsnoc.out HNB.out), ?_, hb6⟩, by simp [intOf]; omega⟩
               rw [hstep.out, hst.out, t1, if_neg (by simp), List.length_append, List.flatMap_append]
               simpa using hown6)
            | (refine ⟨⟨k + 1, _, by omega, by go_num, rfl, by rw [hstep.out, hst.out]; exact HP4.out.symm, Lib.hid (hsnoc.out HNB.out), ?_, hb5⟩, by simp [intOf]; omega⟩
               rw [hstep.out, hst.out, t1, if_pos rfl]
               exact hown5)
        · clear HQD hud hua hub q32 e32;go_wp2_with fail
          refine wp_region_noPanic ?_;clear hei hqi;refine aQ 11 (fun w'=>w'.rangeAt b (off+k*33) (aC q)∧w'.rangeAt w.heap.size 0 (aC e)∧Below w2.heap.size w2 w') (by kernel_rfl) (by kernel_rfl) ⟨HQ2.out,HE2.out,(Below.refl _ _).drew⟩ (fun hH=>?_);refine jM 0 (.tmp 7) (some 34) (.bool false) hH ?_;simp only[jq];refine jT 1 (.unOp .not 4 (.tmp 34)) (some 35) (.bool true) hH ?_;simp only[jq];refine jM 2 (.tmp 35) (some 36) (.bool true) hH ?_;simp only[jq];refine jL 3 35 (.tmp 3) (some 37) (cs:=aC e) (fun _ hX=>hX.2.1) Tryz.underlying35 rfl HH.out.2 hH ?_;simp only[jq];refine jM 4 (.tmp 0) (some 38) (.slice (some ⟨b,off,none⟩) L.length cap) hH ?_;simp only[jq];refine jM 5 (.tmp 8) (some 39) (.int .i64 k) hH ?_;simp only[jq];refine jT 6 (.indexAddr 28 (.tmp 38) (.tmp 39)) (some 40) (.pointer (some ⟨b,off+k*33,none⟩)) hH ?_;simp only[jq];refine jL 7 35 (.tmp 40) (some 41) (cs:=aC q) (fun _ hX=>hX.1) Tryz.underlying35 rfl HH.out.1 hH ?_;simp only[jq];refine jW [8] (AllReadyH.cons rfl (fun K hK=>?_) jN)
          go_simp
          refine(pZ e q _ he hpk).mono ?_;rintro r wN ⟨rfl,hbN⟩;go_wp2_with fail
          refine hK.out _ _ ⟨fun j u hj=>Below.cell' hbN (hH.1 j u hj),fun j u hj=>Below.cell' hbN (hH.2.1 j u hj),aB hH.2.2 hbN⟩ (fun hH=>?_);refine jT 9 (.binOp .lss 3 (.tmp 42) (.const (.int .i64 0)) 3) (some 43) (.bool (decide (dE e q<0))) hH ?_;simp only[jq];refine jT 10 (.pick (.tmp 36) (.tmp 43) (.const (.bool false))) (some 44) (.bool (decide (dE e q<0))) hH ?_;simp only[jq];refine wpAnyH_done (by kernel_rfl) ?_ _;refine NoPanic.normal ?_;have hb3:=hb2.trans (hH.2.2.mono hsz2);have hown3:=aX hown2 hH.2.2;rcases jb (decide (dE e q<0)) with c1|c1
          · rw[c1];have hoA:=aX hown3 (mD (Below.refl _ wN) (.cells (aC e).toArray 35));have hnA:=Sn.new wN (aC e).toArray 35 33 1 (by simp[HEL.out]);have hbuild:=iC (aC e) 33 HEL.out;have HE3:=jz (HE0.out wN hb3);go_wp2_with (first
              | (refine ld 35 _ rfl rfl rfl HE3.out Tryz.underlying35 rfl HH.out.2 ?_)
              | (at_builtin;refine app sF (.tmp 45) (.tmp 47) rfl rfl (v:=u6) rfl hoA rfl hnA (fun u hu=>uS e u (by simpa using hu)) (by unfold maxLen;omega) (by omega) (by have:=hb3.size;simp;omega) ?_;intro v4 w4 hown4 hg4 _))
            have hb4:Below w1.heap.size w1 w4:=(hb3.alloc hb3.size (.cells (aC e).toArray 35)).grown hg4 (by simp;have:=hb3.size;omega) (fun g hg=>(hoA.lt g hg).1);obtain⟨O4,p4,hO4,hp4⟩:∃ O4 p4,O4=O++[e]∧p4=true:=⟨_,_,rfl,rfl⟩;have hst:Hid (cO e (O,false) q=(if decide (q.1=e.1) then O4 else O4++[q],p4)):=jz (by rw[hO4,hp4];unfold cO;rw[c1];rfl);have hO4l:O4.length≤1002:=by rw[hO4];simp;omega
            replace hown4:w4.ownsRow w1.heap.size 35 33 v4 O4.length (O4.flatMap aC):=by rw[hO4,List.length_append,List.flatMap_append];simpa using hown4
            have HP4:=jz hp4;clear hO4 hp4 hoA hnA hg4;have t1:=HT.out;have hud:=Tryz.underlying33;have heq:=HQDH.out;rw[t1] at heq;obtain⟨hr1,_⟩:=dP (HQ0.out w4 hb4) hpk;obtain⟨hr2,_⟩:=dP (HE0.out w4 hb4) he;have HR1:=jz hr1;have HR2:=jz hr2;have HHT:=jz t1;clear hr1 hr2 t1;refine wp_region_quiet_lit (by kernel_rfl) (by kernel_rfl) ?_
            repeat (first
              | (refine kH 33 (.tmp 52) (by exact rfl) (by exact rfl) (by exact rfl) HR1.out hud rfl HUD.out.1 ?_;simp only[jq])
              | (refine kH 33 (.tmp 54) (by exact rfl) (by exact rfl) (by exact rfl) HR2.out hud rfl HUD.out.2 ?_;simp only[jq])
              | quiet_step (fail))
            refine wpQuiet_nil ?_;intro w5 hw5;obtain⟨nq5,hw5⟩:=hw5;have hb5:Below w1.heap.size w1 w5:=by rw[hw5];exact bR hb4 _
            have hown5:=aX hown4 (Below.refl w4.heap.size w4);replace hown5:=aX hown4 (show Below w4.heap.size w4 w5 by rw[hw5];exact bR (Below.refl _ _) _);have hoA:=aX hown5 (mD (Below.refl _ w5) (.cells (aC q).toArray 35));have hnA:=Sn.new w5 (aC q).toArray 35 33 1 (by simp[hq33]);have hbuild:=iC (aC q) 33 hq33;have HQ5:=jz (HQ0.out w5 hb5);have hsz5:=hb5.size;clear hw5 heq HR1 HR2;go_wp2_with (first
              | (refine ld 35 _ rfl rfl rfl HQ5.out Tryz.underlying35 rfl HH.out.1 ?_)
              | (at_builtin;refine app sF (.tmp 57) (.tmp 62) rfl rfl rfl hoA rfl hnA (fun u hu=>uS q u (by simpa using hu)) (by unfold maxLen;omega) (by omega) (by simp;omega) ?_;intro v6 w6 hown6 hg6 _))
            have t1:=HHT.out
            first
              | (have hb6 : Below w1.heap.size w1 w6 := (hb5.alloc hb5.size (.cells (aC q).toArray 35)).grown hg6 (by simp; omega) (fun g hg => (hoA.lt g hg).1)
                 refine ⟨⟨k + 1, _, by omega, by go_num, rfl, by rw [hstep.out, hst.out]; exact HP4.out.symm, Lib.hid (hsnoc.out HNB.out), ?_, hb6⟩, by simp [intOf]; omega⟩
                 rw [hstep.out, hst.out, t1, if_neg (by simp), List.length_append, List.flatMap_append]
                 simpa using hown6)
              | (refine ⟨⟨k + 1, _, by omega, by go_num, rfl, by rw [hstep.out, hst.out]; exact HP4.out.symm, Lib.hid (hsnoc.out HNB.out), ?_, hb5⟩, by simp [intOf]; omega⟩
                 rw [hstep.out, hst.out, t1, if_pos rfl]
                 exact hown5)
          · rw[c1];obtain⟨w4,hw4⟩:=je wN;have hb4:Below w1.heap.size w1 w4:=by rw[hw4];exact hb3
            have hown4:w4.ownsRow w1.heap.size 35 33 u6 O.length (O.flatMap aC):=by rw[hw4];exact hown3
            obtain⟨O4,p4,hO4,hp4⟩:∃ O4 p4,O4=O∧p4=false:=⟨_,_,rfl,rfl⟩;have hst:Hid (cO e (O,false) q=(if decide (q.1=e.1) then O4 else O4++[q],p4)):=jz (by rw[hO4,hp4];unfold cO;rw[c1];rfl);have hO4l:O4.length≤1002:=by rw[hO4];omega
            rw[← hO4] at hown4;have HP4:=jz hp4;rw[← hw4];clear hO4 hp4;go_wp2_with fail
            have t1:=HT.out;have hud:=Tryz.underlying33;have heq:=HQDH.out;rw[t1] at heq;obtain⟨hr1,_⟩:=dP (HQ0.out w4 hb4) hpk;obtain⟨hr2,_⟩:=dP (HE0.out w4 hb4) he;have HR1:=jz hr1;have HR2:=jz hr2;have HHT:=jz t1;clear hr1 hr2 t1;refine wp_region_quiet_lit (by kernel_rfl) (by kernel_rfl) ?_
            repeat (first
              | (refine kH 33 (.tmp 52) (by exact rfl) (by exact rfl) (by exact rfl) HR1.out hud rfl HUD.out.1 ?_;simp only[jq])
              | (refine kH 33 (.tmp 54) (by exact rfl) (by exact rfl) (by exact rfl) HR2.out hud rfl HUD.out.2 ?_;simp only[jq])
              | quiet_step (fail))
            refine wpQuiet_nil ?_;intro w5 hw5;obtain⟨nq5,hw5⟩:=hw5;have hb5:Below w1.heap.size w1 w5:=by rw[hw5];exact bR hb4 _
            have hown5:=aX hown4 (Below.refl w4.heap.size w4);replace hown5:=aX hown4 (show Below w4.heap.size w4 w5 by rw[hw5];exact bR (Below.refl _ _) _);have hoA:=aX hown5 (mD (Below.refl _ w5) (.cells (aC q).toArray 35));have hnA:=Sn.new w5 (aC q).toArray 35 33 1 (by simp[hq33]);have hbuild:=iC (aC q) 33 hq33;have HQ5:=jz (HQ0.out w5 hb5);have hsz5:=hb5.size;clear hw5 heq HR1 HR2;go_wp2_with (first
              | (refine ld 35 _ rfl rfl rfl HQ5.out Tryz.underlying35 rfl HH.out.1 ?_)
              | (at_builtin;refine app sF (.tmp 57) (.tmp 62) rfl rfl rfl hoA rfl hnA (fun u hu=>uS q u (by simpa using hu)) (by unfold maxLen;omega) (by omega) (by simp;omega) ?_;intro v6 w6 hown6 hg6 _))
            have t1:=HHT.out
            first
              | (have hb6 : Below w1.heap.size w1 w6 := (hb5.alloc hb5.size (.cells (aC q).toArray 35)).grown hg6 (by simp; omega) (fun g hg => (hoA.lt g hg).1)
                 refine ⟨⟨k + 1, _, by omega, by go_num, rfl, by rw [hstep.out, hst.out]; exact HP4.out.symm, Lib.hid (hsnoc.out HNB.out), ?_, hb6⟩, by simp [intOf]; omega⟩
                 rw [hstep.out, hst.out, t1, if_neg (by simp), List.length_append, List.flatMap_append]
                 simpa using hown6)
              | (refine ⟨⟨k + 1, _, by omega, by go_num, rfl, by rw [hstep.out, hst.out]; exact HP4.out.symm, Lib.hid (hsnoc.out HNB.out), ?_, hb5⟩, by simp [intOf]; omega⟩
                 rw [hstep.out, hst.out, t1, if_pos rfl]
                 exact hown5)
    · obtain rfl:k=L.length:=by omega
      rw[List.take_length] at hno hown hp;have hOl:=sG L e;obtain⟨⟨O,p'⟩,hO⟩:∃ S,S=j9 L e:=⟨_,rfl⟩;have hres:Hid (aM L e=(if p' then O else O++[e],true)):=jz (by
        unfold aM
        rw[if_neg (by rw[List.any_eq_true];rintro⟨x,hx,hbx⟩;rw[hno.out x hx] at hbx;cases hbx),← hO])
      rw[← hO] at hown hp hOl;obtain rfl:p=p':=hp;replace hown:wr.ownsRow w1.heap.size 35 33 u6 O.length (O.flatMap aC):=hown;have hOl1:O.length≤1001:=by have:=hOl.1;simp only at this;omega
      have hei:(Tryz.prog.info? 35).map (·.size)=some (aC e).length:=by rw[HEL.out];kernel_rfl
      have HE3:Hid (wr.rangeAt w.heap.size 0 (aC e)):=jz (fun j u hj=>Below.cell' hb (HRE.out j u hj));have hbW:=aB hbA hb;have hszr:=hb.size;clear hO hOl hno;rcases jb p with rfl|rfl
      · clear hei;go_wp2_with fail
        go_ret2
        rw[hres.out];exact⟨_,rfl,Sn.own hown,hbW,fun b e=>.inr ⟨Nat.le_trans hbA.size (hown.lt b e).1,(hown.lt b e).2⟩⟩
      · have hoA:=aX hown (mD (Below.refl _ wr) (.cells (aC e).toArray 35));have hnA:=Sn.new wr (aC e).toArray 35 33 1 (by simp[HEL.out]);have hbuild:=iC (aC e) 33 HEL.out;have HH:=jz hei;clear hei;go_wp2_with (first
          | (refine ld 35 _ rfl rfl rfl HE3.out Tryz.underlying35 rfl HH.out ?_)
          | (at_builtin;refine app sF (.tmp 66) (.tmp 68) rfl rfl rfl hoA rfl hnA (fun u hu=>uS e u (by simpa using hu)) (by unfold maxLen;omega) (by omega) (by simp;omega) ?_;intro v4 w4 hown4 hg4 _))
        have hb4:Below w.heap.size w w4:=(hbW.alloc (by omega) (.cells (aC e).toArray 35)).grown hg4 (by simp;omega) (fun g hg=>by have:=(hoA.lt g hg).1;omega)
        go_ret2
        rw[hres.out];refine⟨_,rfl,?_,hb4,fun b e=>.inr ⟨Nat.le_trans hbA.size (hown4.lt b e).1,(hown4.lt b e).2⟩⟩;have:=Sn.own hown4;simp only[Bool.false_eq_true,if_false,List.length_append,List.flatMap_append];simpa using this
end
section
set_option maxRecDepth 100000
open Go.RowKit
theorem sH(L:List (List Int×Int))(e:List Int×Int)(h:∀ p∈L,EntOk p)(he:EntOk e):∀ p∈(aM L e).1,EntOk p:=by
 have key:∀(L:List (List Int×Int)) (s:List (List Int×Int)×Bool),(∀ p∈L,EntOk p)→(∀ p∈s.1,EntOk p)→∀ p∈(L.foldl (cO e) s).1,EntOk p:=by
  intro L;induction L with
  | nil=>intro s _ h p hp;exact h p hp
  | cons q L ih=>
   intro s hL hs;rw[List.foldl_cons];refine ih _ (fun p hp=>hL p (by simp[hp])) fun p hp=>?_
   have hq:=hL q (by simp);have hs':∀ p∈(if !s.2 && decide (dE e q<0) then (s.1++[e],true) else s).1,EntOk p:=by
    intro p hp;split at hp
    ·rcases List.mem_append.1 hp with hp|hp
     ·exact hs p hp
     ·obtain rfl:p=e:=by simpa using hp
      exact he
    ·exact hs p hp
   unfold cO at hp;simp only at hp;by_cases hd:decide (q.1=e.1)=true
   ·rw[if_pos hd] at hp;exact hs' p hp
   ·rw[if_neg hd] at hp;rcases List.mem_append.1 hp with hp|hp
    ·exact hs' p hp
    ·obtain rfl:p=q:=by simpa using hp
     exact hq
 intro p hp;unfold aM at hp;split at hp
 ·exact h p hp
 ·have:=key L ([],false) h (by simp);simp only at hp;split at hp
  ·exact this p hp
  ·rcases List.mem_append.1 hp with hp|hp
   ·exact this p hp
   ·obtain rfl:p=e:=by simpa using hp
    exact he
theorem oO(l:List (List Int×Int))(h:∀ p∈l,EntOk p):∀ p∈bN l,EntOk p:=by
 unfold bN;have key:∀(l o:List (List Int×Int)),(∀ p∈l,EntOk p)→(∀ p∈o,EntOk p)→∀ p∈l.foldl (fun o e=>(aM o e).1) o,EntOk p:=by
  intro l;induction l with
  | nil=>intro o _ h;exact h
  | cons q l ih=>
   intro o hl ho;rw[List.foldl_cons];exact ih _ (fun p hp=>hl p (by simp[hp])) (sH o q ho (hl q (by simp)))
 exact key l [] h (by simp)
attribute [local irreducible] bN aM
theorem AY(va:Value)(l:List (List Int×Int))(w:World)(hs:Sn w 33 va l.length (l.flatMap aC))(hok:∀ p∈l,EntOk p)(hl:l.length≤1000):
  Calls Tryz.prog 98 #[va] w fun e w'=>∃ v,e = .returned v∧Sn w' 33 v (bN l).length ((bN l).flatMap aC)∧Below w.heap.size w w'∧∀ b,v.ownBlock=some b→w.heap.size≤b∧b<w'.heap.size:=by
 obtain⟨A,cap,rfl,hcap,_,_⟩:=id hs;have HS:=jz hs;have HOK:=jz hok;clear hs hok;go_enter Tryz.func98,Tryz.ntmps98
 go_wp2_with fail
 go_loopw [3,4] (fun m i wr=>∃ k:Nat,k≤l.length∧i = .int .i64 k∧Sn wr 33 m (bN (l.take k)).length ((bN (l.take k)).flatMap aC)∧Below w.heap.size w wr∧∀ b,m.ownBlock=some b→w.heap.size≤b∧b<wr.heap.size) (fun _ i _=>l.length-(intOf i).toNat)
 case atStart=>exact⟨0,Nat.zero_le _,rfl,by unfold bN;exact⟨none,0,rfl,Nat.le_refl _,rfl,fun h=>absurd h (by simp)⟩,Below.refl _ _,fun b e=>by cases e⟩
 case round=>
  obtain⟨k,hk,rfl,hsn,hb,hlo⟩:=hrel;have HLO:=jz hlo;clear hlo;by_cases hlt:k<l.length
  ·obtain⟨b,off,rfl,hr⟩:=gH aC EntOk 33 aH (HS.below hb) HOK.out k hlt;replace hr:wr.rangeAt b (off+k*33) (aC l[k]):=hr;have HR:=jz hr;have hpk:=HOK.out l[k] (List.getElem_mem hlt);have hlen:=aH l[k] hpk;have hsnoc:=jz (mP l k hlt);have hmem:=jz (oO (l.take k) (fun p hp=>HOK.out p (List.mem_of_mem_take hp)));have hle:=oN (l.take k);rw[List.length_take,Nat.min_eq_left (by omega)] at hle;obtain⟨O,hO⟩:=je (bN (l.take k));rw[← hO] at hsn hsnoc hmem hle;clear hr hO;have HSN:=jz hsn;clear hsn;have hi0:(0:Int)≤k:=by omega
   have hi1:(k:Int)<l.length:=by omega
   go_wp2_with (first
    | (refine ld 35 _ rfl rfl rfl HR.out Tryz.underlying35 rfl (by rw[hlen];kernel_rfl) ?_))
   refine(pM _ O l[k] wr HSN.out hmem.out (by omega) hpk).mono ?_;rintro e w2 ⟨v,rfl,hsn2,hb2,hv2⟩;have HV2:Hid (∀ b,v.ownBlock=some b→w.heap.size≤b∧b<w2.heap.size):=jz (fun b e=>by
    have h1:=hb.size
    have h2:=hb2.size
    rcases hv2 b e with h|h
    ·have:=HLO.out b h;omega
    ·omega)
   clear hv2;go_wp2_with fail
   refine⟨⟨k+1,by omega,by go_num,?_,aB hb hb2,HV2.out⟩,by simp[intOf];omega⟩;rw[hsnoc.out];exact hsn2
  ·obtain rfl:k=l.length:=by omega
   rw[List.take_length] at hsn;go_wp2_with fail
   go_ret;exact⟨_,rfl,hsn,hb,HLO.out⟩
end
section
abbrev EL:=List (List Int×Int)
def WL(E:EL):Prop:=∃ f,Lists f E
theorem WL.nil:WL []:=⟨_,Lists.nil⟩
theorem WL.put{E:EL}(h:WL E){q:List Int×Int}(hq:EntOk q):WL (aM E q).1:=by
 obtain⟨f,h⟩:=h;exact⟨_,(oM h hq).1⟩
theorem WL.live{E:EL}(h:WL E)(now:Int):WL (aE E now):=by
 obtain⟨f,h⟩:=h;exact⟨_,h.live now⟩
theorem WL.of{l:EL}(h:∀ p∈l,EntOk p):WL (bN l):=⟨_,y9 l h⟩
theorem WL.ok{E:EL}(h:WL E):∀ p∈E,EntOk p:=fun p hp=>by
 obtain⟨f,h⟩:=h;exact((h.mem p).1 hp).1
theorem sI(E:EL){now later:Int}(h:now≤later):aE (aE E now) later=aE E later:=by
 unfold aE;rw[List.filter_filter];congr 1
 funext p
 by_cases h1:later≤p.2
 ·simp[h1];omega
 ·simp[h1]
theorem C9(l:EL)(q:List Int×Int):bN (l++[q])=(aM (bN l) q).1:=by
 unfold bN;rw[List.foldl_append];rfl
def fI(E:EL)(d:List Int)(now:Int):Bool:=E.any fun p=>decide (p.1=d) && decide (now≤p.2)
theorem Lists.hasq{F:List Int→Option Int}{W:EL}(h:Lists F W){d:List Int}(hd:DigOk d)(now:Int):fI W d now=((F d).isSome && decide (now≤(F d).getD 0)):=by
 unfold fI;cases hf:F d with
 | none=>
  rw[Option.isSome_none,Bool.false_and,List.any_eq_false];intro p hp;have:=((h.mem p).1 hp).2;simp only[Bool.and_eq_true,decide_eq_true_eq,not_and];rintro rfl;rw[hf] at this;cases this
 | some t=>
  simp only[Option.isSome_some,Option.getD_some,Bool.true_and];by_cases ht:now≤t
  ·rw[decide_eq_true ht,List.any_eq_true];exact⟨(d,t),(h.mem _).2 ⟨⟨hd,h.exp d t hd hf⟩,hf⟩,by simp[ht]⟩
  ·rw[decide_eq_false ht,List.any_eq_false];intro p hp;have:=((h.mem p).1 hp).2;simp only[Bool.and_eq_true,decide_eq_true_eq,not_and];rintro rfl;rw[hf] at this;injection this with this
   omega
theorem GV(E:EL)(d:List Int)(now:Int):fI (aE E now) d now=fI E d now:=by
 unfold fI aE;rw[List.any_filter];congr 1
 funext p
 cases h1:decide (now≤p.2) <;> cases h2:decide (p.1=d) <;> rfl
theorem eX(E:EL)(now:Int):(aE E now).length≤E.length:=List.length_filter_le ..
end
section
open Go.RowKit
attribute [local irreducible] wpQuiet wpAnyH
theorem KX(r:RefD)(f z p:Int)(g:Nat)(q:aW):Rb 3 r (fS r f z p g q)∧(fS r f z p g q).sec.length=r.sec.length:=by
 have hz:Rb 3 r r∧r.sec.length=r.sec.length:=⟨(Rb.refl r).mono (by omega),rfl⟩;unfold fS;split
 ·exact hz
 split
 ·exact hz
 split
 ·exact⟨CR _ _ _,kW _ _ _⟩
 ·exact hz
theorem KY(r:RefD)(L:RLog)(qs:List aW):Rb (2*qs.length+4) r (cW r L qs).1∧(cW r L qs).1.sec.length=r.sec.length:=by
 have hz:Rb (2*qs.length+4) r r∧r.sec.length=r.sec.length:=⟨(Rb.refl r).mono (by omega),rfl⟩;unfold cW;split
 ·split
  ·exact hz
  ·split
   ·exact hz
   ·unfold CV y2;have h1:=CS r (((r.sec.length/2:Nat):Int)*(1-(L.side:Int))) (r.sec.length/2:Nat) (max L.last L.gen+1) qs;have h2:=AS r (((r.sec.length/2:Nat):Int)*(1-(L.side:Int))) (r.sec.length/2:Nat) (max L.last L.gen+1) qs;split
    ·have h3:=CR (bP r (((r.sec.length/2:Nat):Int)*(1-(L.side:Int))) (r.sec.length/2:Nat) (max L.last L.gen+1) qs).1 (((r.sec.length/2:Nat):Int)*(1-(L.side:Int))) (rec (max L.last L.gen+1) toll);split
     ·exact⟨(h1.trans h3).mono (by omega),(kW _ _ _).trans h2⟩
     ·exact⟨(h1.trans h3).mono (by omega),(kW _ _ _).trans h2⟩
    ·exact⟨h1.mono (by omega),h2⟩
 ·exact hz
theorem GW(r:RefD)(x:SSt)(sd la:Nat):Rb 3 r (iJ r x sd la).1∧(iJ r x sd la).1.sec.length=r.sec.length:=by
 have hz:Rb 3 r r∧r.sec.length=r.sec.length:=⟨(Rb.refl r).mono (by omega),rfl⟩;unfold iJ;split
 ·exact hz
 split
 ·exact hz
 split
 ·exact⟨CR _ _ _,kW _ _ _⟩
 ·exact⟨CR _ _ _,kW _ _ _⟩
theorem J6(r:RefD):Rb 4 r (cM r).1∧(cM r).1.sec.length=r.sec.length:=by
 have hz:Rb 4 r r∧r.sec.length=r.sec.length:=⟨(Rb.refl r).mono (by omega),rfl⟩;have hs:Rb 1 r (bL r):=qI r;have hl:=j0 r;unfold cM;split
 ·exact hz
 split
 ·unfold oI;have h:=GW (bL r) (if pL (dN (bL r) 0 (r.sec.length/2)) (dN (bL r) (r.sec.length/2:Nat) (r.sec.length/2)) then dN (bL r) (r.sec.length/2:Nat) (r.sec.length/2) else dN (bL r) 0 (r.sec.length/2)) (if pL (dN (bL r) 0 (r.sec.length/2)) (dN (bL r) (r.sec.length/2:Nat) (r.sec.length/2)) then 1 else 0) (fY (bL r) (bL r).sec.length);exact⟨(hs.trans h.1).mono (by omega),h.2.trans hl⟩
 ·exact⟨hs.mono (by omega),hl⟩
theorem KZ(r:RefD)(L:RLog)(q:aW):Rb 3 r (kV r L q)∧(kV r L q).sec.length=r.sec.length:=by
 have hz:Rb 3 r r∧r.sec.length=r.sec.length:=⟨(Rb.refl r).mono (by omega),rfl⟩;unfold kV;split
 ·split
  ·exact hz
  ·exact KX r _ _ _ _ _
 ·exact hz
theorem EW(r:RefD)(L:RLog)(q:aW):aK (pH r L q):=by
 unfold pH;split
 ·split
  ·exact(show aK 11 from⟨by decide,by decide⟩)
  ·have:=rW r (((r.sec.length/2:Nat):Int)*(L.side:Int)) (r.sec.length/2:Nat) ((L.es.length+1:Nat):Int) L.gen q;exact⟨by omega,by omega⟩
 ·exact(show aK 12 from⟨by decide,by decide⟩)
theorem EX(r:RefD)(L:RLog)(qs:List aW):aK (cW r L qs).2.2:=by
 unfold cW;split
 ·split
  ·exact(show aK 11 from⟨by decide,by decide⟩)
  ·split
   ·exact(show aK 13 from⟨by decide,by decide⟩)
   ·unfold CV y2;have h1:=rZ r (((r.sec.length/2:Nat):Int)*(1-(L.side:Int))) (r.sec.length/2:Nat) (max L.last L.gen+1) qs;have h2:=nK (bP r (((r.sec.length/2:Nat):Int)*(1-(L.side:Int))) (r.sec.length/2:Nat) (max L.last L.gen+1) qs).1 (((r.sec.length/2:Nat):Int)*(1-(L.side:Int))) (rec (max L.last L.gen+1) toll);split
    ·split
     ·exact(show aK 0 from⟨by decide,by decide⟩)
     ·exact⟨by show _≤eU _ _ _;omega,by show eU _ _ _≤_;omega⟩
    ·exact⟨by show _≤(bP _ _ _ _ _).2;omega,by show(bP _ _ _ _ _).2≤_;omega⟩
 ·exact(show aK 12 from⟨by decide,by decide⟩)
theorem zB(r:RefD)(x:SSt)(sd la:Nat):aK (iJ r x sd la).2.2:=by
 unfold iJ;split
 ·exact(show aK 0 from⟨by decide,by decide⟩)
 split
 ·exact(show aK 13 from⟨by decide,by decide⟩)
 split
 ·exact(show aK 0 from⟨by decide,by decide⟩)
 ·have:=nK r 0 (rec (la+1) toll);exact⟨by show _≤eU _ _ _;omega,by show eU _ _ _≤_;omega⟩
theorem AZ(r:RefD):aK (cM r).2.2:=by
 unfold cM;split
 ·exact(show aK 15 from⟨by decide,by decide⟩)
 split
 ·exact zB _ _ _ _
 ·have:=sB r;exact⟨by show _≤bX _;omega,by show bX _≤_;omega⟩
theorem bm0{α:Type}{a:α}{l:List α}:a∈a :: l:=List.mem_cons_self ..
theorem bm1{α:Type}{a b:α}{l:List α}:a∈b :: a :: l:=List.mem_cons_of_mem _ bm0
theorem bm2{α:Type}{a b c:α}{l:List α}:a∈b :: c :: a :: l:=List.mem_cons_of_mem _ bm1
theorem bm3{α:Type}{a b c d:α}{l:List α}:a∈b :: c :: d :: a :: l:=List.mem_cons_of_mem _ bm2
theorem bm4{α:Type}{a b c d e:α}{l:List α}:a∈b :: c :: d :: e :: a :: l:=List.mem_cons_of_mem _ bm3
theorem bm5{α:Type}{a b c d e f:α}{l:List α}:a∈b :: c :: d :: e :: f :: a :: l:=List.mem_cons_of_mem _ bm4
structure RCach where
 has:Bool
 L:RLog
 E:EL
 til:Int
def rcC(v x:Value)(C:RCach):Array Value:=#[.bool C.has,.bool C.L.has,.int .i64 C.L.side,.int .u32 C.L.gen,.int .u32 C.L.last,v,.bool C.L.brk,x,.int .i64 C.til]
def rcZ:Array Value:=#[.bool false,.bool false,.int .i64 0,.int .u32 0,.int .u32 0,.slice none 0 0,.bool false,.slice none 0 0,.int .i64 0]
def rc0:RCach:=⟨false,rl0,[],0⟩
theorem MB:rcC (.slice none 0 0) (.slice none 0 0) rc0=rcZ:=rfl
theorem xI:∀ w,(zeroValue 63).run Tryz.prog w = .ok (.agg rcZ) w:=fun w=>by unfold rcZ;kernel_rfl
theorem zC:Tryz.prog.built 63 []=some rcZ:=by unfold rcZ;kernel_rfl
theorem rcI:(Tryz.prog.info? 63).map (·.size)=some 9:=by kernel_rfl
theorem uT(v x:Value)(C:RCach):rcC v x C=([Value.bool C.has]++(rlC v C.L).toList++[x,.int .i64 C.til]).toArray:=rfl
theorem GX{w:World}{g:Nat}{v x:Value}{C:RCach}(h:w.rangeAt g 0 (rcC v x C).toList):w.rangeAt g 1 (rlC v C.L).toList:=fun i u hi=>by
 have hl:i<6:=(List.getElem?_eq_some_iff.1 hi).1;have:=h (1+i) u (by
  rw[uT,jt,List.append_assoc,List.getElem?_append_right (by simp),List.getElem?_append_left (by simp[rlC];try omega)]
  simpa using hi)
 rwa [Nat.zero_add] at this
def bF(m:RM)(r:RefD)(v x:Value)(b:Nat):Prop:=b∈aL m r∨v.ownBlock=some b∨x.ownBlock=some b
structure RV(w:World)(m:RM)(r:RefD)(v x:Value)(C:RCach):Prop where
 rk:RK w m r
 rl:RLK w v C.L
 xs:Sn w 33 x C.E.length (C.E.flatMap aC)
 ok:∀ p∈C.E,EntOk p
 lt:∀ b,x.ownBlock=some b→b<w.heap.size
section
variable {w w' W : World} {m m' : RM} {r r' : RefD} {v v' x x' : Value} {C C' : RCach}
theorem RV.keep(h:RV w m r v x C)(hb:Below w.heap.size w w'):RV w' m r v x C:=⟨h.rk.keep hb,h.rl.keep hb,h.xs.below hb,h.ok,fun b e=>Nat.lt_of_lt_of_le (h.lt b e) hb.size⟩
theorem RV.same(h:RV w m r v x C)(hk:∀ b,bF m r v x b→w'.heap[b]? = w.heap[b]?)(hs:w.heap.size≤w'.heap.size):RV w' m r v x C:=
 ⟨h.rk.same (fun b hb=>hk b (.inl hb)) hs,h.rl.same (fun b e=>hk b (.inr (.inl e))) hs,h.xs.same (fun b e=>hk b (.inr (.inr e))),h.ok,fun b e=>Nat.lt_of_lt_of_le (h.lt b e) hs⟩
theorem RV.bl(h:RV w m r v x C):∀ b,bF m r v x b→b<w.heap.size:=fun b hb=>hb.elim (h.rk.bl b) (fun hb=>hb.elim (h.rl.lt b) (h.lt b))
theorem xJ(h:RV w m r v x C):(rcC v x C).all (·.oneCell')=true:=by
 have h1:=dB h.rl;obtain⟨_,_,e1,_⟩:=h.xs;rw[uT,List.all_toArray];rw[← Array.all_toList] at h1;simp only[List.all_append,h1,List.all_cons,List.all_nil,e1];rfl
theorem eH(h:RV w m r v x C):∀ u∈(rcC v x C).toList,u.oneCell'=true:=fun u hu=>by
 have:=xJ h;rw[Array.all_eq_true_iff_forall_mem] at this;exact this u (by simpa using hu)
theorem dF(h:RK w m r):∀ u∈(aA m r).toList,u.oneCell'=true:=fun u hu=>by
 have:=aR h;rw[Array.all_eq_true_iff_forall_mem] at this;exact this u (by simpa using hu)
theorem xK{L:RLog}(h:RLK w v L):∀ u∈(rlC v L).toList,u.oneCell'=true:=fun u hu=>by
 have:=dB h;rw[Array.all_eq_true_iff_forall_mem] at this;exact this u (by simpa using hu)
end
structure BX(w0 W:World)(R:Nat→Prop)(l:List (Nat×TypeId×Array Value)):Prop where
 b:∀ y∈l,Blk W y.1 y.2.1 y.2.2
 nd:(l.map (·.1)).Nodup
 lo:∀ y∈l,w0.heap.size≤y.1
 be:Below w0.heap.size w0 W
 r:∀ b,R b→(∀ y∈l,b≠y.1)∧b<W.heap.size
section
variable {w0 W W2 : World} {R R2 : Nat → Prop} {l l1 l2 : List (Nat × TypeId × Array Value)} {g : Nat} {t : TypeId} {cs : Array Value}
theorem BX.keep(h:BX w0 W R l)(hb:Below W.heap.size W W2):BX w0 W2 R l:=⟨fun y hy=>(h.b y hy).keep hb,h.nd,h.lo,aB h.be hb,fun b hb2=>⟨(h.r b hb2).1,Nat.lt_of_lt_of_le (h.r b hb2).2 hb.size⟩⟩
theorem BX.nil(hb:Below w0.heap.size w0 W)(hr:∀ b,R b→b<W.heap.size):BX w0 W R []:=⟨(fun y hy=>by cases hy),List.nodup_nil,(fun y hy=>by cases hy),hb,fun b h=>⟨(fun y hy=>by cases hy),hr b h⟩⟩
theorem BX.new(h:BX w0 W R l)(t:TypeId)(cs:Array Value):BX w0 (W.alloc (.cells cs t)) R ((W.heap.size,t,cs) :: l):=by
 have k:=h.keep (aN W (.cells cs t));refine⟨fun y hy=>?_,?_,fun y hy=>?_,k.be,fun b hb=>⟨fun y hy=>?_,(k.r b hb).2⟩⟩
 ·rcases List.mem_cons.1 hy with rfl|hy
  ·exact Blk.new _ _ _
  ·exact k.b y hy
 ·rw[List.map_cons,List.nodup_cons];refine⟨fun hm=>?_,h.nd⟩;obtain⟨y,hy,e⟩:=List.mem_map.1 hm;have:=(h.b y hy).lt;omega
 ·rcases List.mem_cons.1 hy with rfl|hy
  ·exact h.be.size
  ·exact h.lo y hy
 ·rcases List.mem_cons.1 hy with rfl|hy
  ·have:=(h.r b hb).2;show b≠W.heap.size;omega
  ·exact(h.r b hb).1 y hy
theorem BX.put(h:BX w0 W R (l1++(g,t,cs) :: l2))(cs2:Array Value)(hB:Blk W2 g t cs2)(ho:Off g W W2):BX w0 W2 R (l1++(g,t,cs2) :: l2):=by
 have hg:w0.heap.size≤g:=h.lo (g,t,cs) (by simp);have hnd:=h.nd;rw[List.map_append,List.map_cons,List.nodup_append] at hnd;refine⟨fun y hy=>?_,?_,fun y hy=>?_,h.be.trans (ho.below hg h.be.size),fun b hb2=>⟨fun y hy=>?_,Nat.lt_of_lt_of_le (h.r b hb2).2 ho.size⟩⟩
 ·rcases List.mem_append.1 hy with hy1|hy1
  ·have hne:y.1≠g:=hnd.2.2 y.1 (List.mem_map.2 ⟨y,hy1,rfl⟩) g (by simp);exact ho.blk (h.b y (List.mem_append.2 (.inl hy1))) hne
  ·rcases List.mem_cons.1 hy1 with rfl|hy2
   ·exact hB
   ·have hne:y.1≠g:=fun e=>(List.nodup_cons.1 hnd.2.1).1 (e ▸ List.mem_map.2 ⟨y,hy2,rfl⟩)
    exact ho.blk (h.b y (List.mem_append.2 (.inr (List.mem_cons_of_mem _ hy2)))) hne
 ·rw[List.map_append,List.map_cons];have:=h.nd
  rwa [List.map_append,List.map_cons] at this
 ·rcases List.mem_append.1 hy with hy1|hy1
  ·exact h.lo y (List.mem_append.2 (.inl hy1))
  ·rcases List.mem_cons.1 hy1 with rfl|hy2
   ·exact hg
   ·exact h.lo y (List.mem_append.2 (.inr (List.mem_cons_of_mem _ hy2)))
 ·rcases List.mem_append.1 hy with hy1|hy1
  ·exact(h.r b hb2).1 y (List.mem_append.2 (.inl hy1))
  ·rcases List.mem_cons.1 hy1 with rfl|hy2
   ·exact(h.r b hb2).1 (g,t,cs) (by simp)
   ·exact(h.r b hb2).1 y (List.mem_append.2 (.inr (List.mem_cons_of_mem _ hy2)))
theorem BX.rows(h:BX w0 W R l)(hr:∀ b,R2 b→R b∨(W2.heap.size≤b∧b<W.heap.size))(hl:∀ y∈l,y.1<W2.heap.size):BX w0 W R2 l:=
 ⟨h.b,h.nd,h.lo,h.be,fun b hb=>by
  rcases hr b hb with h1|h1
  ·exact h.r b h1
  ·exact⟨fun y hy e=>by have:=hl y hy;omega,h1.2⟩⟩
theorem BX.lt(h:BX w0 W R l):∀ y∈l,y.1<W.heap.size:=fun y hy=>(h.b y hy).lt
theorem BX.ne(h:BX w0 W R l){b:Nat}(hb:W.heap.size≤b):∀ y∈l,b≠y.1:=fun y hy=>by have:=h.lt y hy;omega
end
structure YX(w0 W:World)(m:RM)(r:RefD)(v x:Value)(C:RCach)(l:List (Nat×TypeId×Array Value)):Prop where
 bx:BX w0 W (bF m r v x) l
 rv:RV W m r v x C
section
variable {w0 W W2 : World} {m m' : RM} {r r' : RefD} {v v' x x' : Value} {C C' : RCach} {l l1 l2 : List (Nat × TypeId × Array Value)} {g : Nat} {t : TypeId} {cs : Array Value}
theorem YX.start(h:RV w0 m r v x C):YX w0 w0 m r v x C []:=⟨BX.nil (Below.refl _ _) h.bl,h⟩
theorem YX.keep(h:YX w0 W m r v x C l)(hb:Below W.heap.size W W2):YX w0 W2 m r v x C l:=⟨h.bx.keep hb,h.rv.keep hb⟩
theorem YX.new(h:YX w0 W m r v x C l)(t:TypeId)(cs:Array Value)(g:Nat)(hg:W.heap.size=g):YX w0 (W.alloc (.cells cs t)) m r v x C ((g,t,cs) :: l):=by
 subst hg;exact⟨h.bx.new t cs,h.rv.keep (aN _ _)⟩
theorem YX.put(h:YX w0 W m r v x C (l1++(g,t,cs) :: l2))(cs2:Array Value)(hB:Blk W2 g t cs2)(ho:Off g W W2):YX w0 W2 m r v x C (l1++(g,t,cs2) :: l2):=
 ⟨h.bx.put cs2 hB ho,h.rv.same (fun b hb2=>ho.block b (h.bx.r b hb2).2 ((h.bx.r b hb2).1 (g,t,cs) (by simp))) ho.size⟩
theorem YX.all(h:YX w0 W m r v x C (l1++(g,t,cs) :: l2))(new:List Value)(hl:cs.size=new.length):YX w0 (W.setCells g 0 new) m r v x C (l1++(g,t,new.toArray) :: l2):=
 h.put _ (Blk.setAll new (h.bx.b (g,t,cs) (by simp)) hl) (dA g new 0 W)
theorem YX.cell(h:YX w0 W m r v x C (l1++(g,t,cs) :: l2))(i:Nat)(u:Value):YX w0 (W.setCell ⟨g,i,none⟩ u) m r v x C (l1++(g,t,cs.setIfInBounds i u) :: l2):=
 h.put _ ((h.bx.b (g,t,cs) (by simp)).set_ i u) ((Off.refl g W).set i u)
theorem eF{g:Nat}{W W2:World}(hb:Below g W W2)(ho:∀ k,k≠g→W2.heap[k]? = W.heap[k]?):Off g W W2:=⟨hb.os,hb.tape,hb.output,hb.size,fun k _ hk=>ho k hk⟩
theorem YX.next(h:YX w0 W m r v x C l)(hb:Below W.heap.size W W2)(hv:RV W2 m' r' v' x' C')(hs:∀ b,bF m' r' v' x' b→bF m r v x b∨W.heap.size≤b):YX w0 W2 m' r' v' x' C' l:=
 ⟨(h.bx.keep hb).rows (W2:=W) (fun b hb2=>(hs b hb2).imp id (fun h=>⟨h,hv.bl b hb2⟩)) h.bx.lt,hv⟩
theorem YX.row(h:YX w0 W m r v x C l)(y:Nat×TypeId×Array Value)(hy:y∈l):W.rangeAt y.1 0 y.2.2.toList:=(h.bx.b y hy).range
end
structure RTo(w W:World)(n:Nat)(m:RM)(r:RefD)(v x:Value)(m':RM)(r':RefD)(v' x':Value):Prop where
 be:Below w.heap.size w W
 sub:∀ b,bF m' r' v' x' b→bF m r v x b∨w.heap.size≤b
 rb:Rb n r r'
 len:r'.sec.length=r.sec.length
theorem sJ(m:RM)(r:RefD)(w:World)(h:RK w m r)(hl:r.sec.length≤4096):
  Calls Tryz.prog 71 #[.agg (aA m r)] w fun e w'=>e = .returned (.int .i64 (((r.sec.length/2:Nat):Int)-1))∧Below w.heap.size w w':=by
 obtain⟨As,cs,es⟩:=h.sec.slc;obtain⟨w1,hw1⟩:=je (w.alloc (.cells (aA m r) 57));have HB:Hid (Below w.heap.size w w1):=jz (by rw[hw1];exact aN _ _);have c0:w1.cell? ⟨w.heap.size,0,none⟩=some (.slice As r.sec.length cs):=by rw[hw1,← es];exact((Blk.new _ _ _).cell 0).trans rfl
 obtain⟨N,hN⟩:=je r.sec.length;obtain⟨K,hK⟩:=je (N/2);rw[← hN] at c0 hl ⊢;rw[← hK];have hd:(N:Int)/2=(K:Int):=by omega
 have hn0:(0:Int)≤(N:Int):=by omega
 have hn1:(N:Int)≤4096:=by omega
 have hd0:(0:Int)≤(K:Int):=by omega
 have hd1:(K:Int)≤4096:=by omega
 clear hN hK;clear h es;go_enter Tryz.func71,Tryz.ntmps71
 go_upto_region 1 with fail
 rw[← hw1];clear hw1;go_wp2_with fail
 go_ret;exact⟨by rw[← hd];rfl,HB.out⟩
theorem nO(c:Int)(w:World)(_:aK c):
  Calls Tryz.prog 72 #[.int .i64 c] w fun e w'=>∃ a:Int,e = .returned (.int .i64 a)∧aK a∧w'=w:=by
 rcases jb (c == 12) with t1|t1
 all_goals
  go_enter Tryz.func72,Tryz.ntmps72
  go_wp2_with fail
  go_ret;exact⟨_,rfl,⟨by decide,by decide⟩,rfl⟩
end
end Go.Proofs.YtombncedfleljaaGreat
