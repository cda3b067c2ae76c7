import Derived.Test.YtjjlaipkkdncfaaGreatDoorMV11
import Derived.Test.YtjjlaipkkdncfaaGreatDoorMV10
import Derived.Shelf.SlLaysF0
import Derived.Ground.SlsfProg
set_option linter.unusedVariables false
set_option linter.unusedSimpArgs false
set_option maxRecDepth 100000
set_option maxHeartbeats 40000000
namespace Go.Proofs.YtjjlaipkkdncfaaGreatDoor
open Go.Proofs.Tryz
section
open Go.RowKit
attribute [local irreducible] wpQuiet wpAnyH
theorem JR(l:Wl):∀ x,l.foldl (λx c=>x*256+c.toNat) x=x*256 ^ l.length+beN l:=by
 induction l with
 | nil=>intro x;simp[beN]
 | cons c l ih=>
  intro x;rw[List.foldl_cons,ih,show beN (c :: l)=(c :: l).foldl (λx c=>x*256+c.toNat) 0 from rfl,List.foldl_cons,ih,List.length_cons,Nat.pow_succ,Nat.zero_mul,Nat.zero_add];rw[Nat.add_mul,Nat.mul_assoc,Nat.mul_comm 256,Nat.add_assoc]
theorem CE(c:Int)(l:Wl):beN (c :: l)=c.toNat*256 ^ l.length+beN l:=by
 rw[show beN (c :: l)=(c :: l).foldl (λx c=>x*256+c.toNat) 0 from rfl,List.foldl_cons,JR,Nat.zero_mul,Nat.zero_add]
theorem G7:∀ k x,beN (beB k x)=x % 256 ^ k
 | 0,x=>by simp[beN,beB,Nat.mod_one]
 | m+1,x=>by
  rw[beB,CE,G7 m x,bE,Nat.mod_pow_succ,Int.toNat_natCast,Nat.mul_comm,Nat.add_comm]
theorem Q0{s:Wl}{g:Nat}{p:Wl}(h:prs s=some (g,p)):g=beN ((s.drop 60).take 4):=by
 unfold prs at h;split at h
 ·cases h
 ·split at h
  ·cases h
  ·split at h
   ·cases h
   ·injection h with h;injection h with h _;exact h.symm
theorem JS(n:Nat):beN (List.replicate n 0)=0:=by
 induction n with
 | zero=>rfl
 | succ n ih=>rw[List.replicate_succ,CE,ih];simp
theorem MV{g:Nat}{p:Wl}(h:prs zsec=some (g,p)):p=[]:=by
 unfold prs at h;rw[show zsec.take 2=List.replicate 2 0 by unfold zsec;rw[List.take_replicate];rfl,JS] at h;split at h
 ·cases h
 ·split at h
  ·cases h
  ·split at h
   ·cases h
   ·injection h with h;injection h with _ h;rw[<- h,List.take_zero]
theorem JT:nS zsec=none:=by
 unfold nS;split
 ·rename_i g p h;rw[MV h,jQ (by decide)]
 ·rfl
end
section
open Go.RowKit
section
variable {P : Program} {ops : Array Oper} {Q : Exit -> Act -> Wd -> Prop} {S : Wd -> Prop} {a : Act} {w : Wd} {listed : Array Bool} {fuel : Nat}
theorem rF{I:List Nat}(i:Nat)(dst:Option Tmp){o:Oper}{f:FuncId}{args:Wa}(h:Calls P f args w λe w'=>∃ v,e = .returned v/\S w'/\(S w'->wpAnyH P .any ops Q S fuel (listed.setIfInBounds i true) (a.put dst v) w'))
  (hs:AllReadyH P .any ops Q S fuel listed a w I) (R:ops[i]? = some o:=by rfl) (D:o.dst=dst:=by rfl) (U:Region.wanted o (yielded ops a.tmps)=true:=by kernel_rfl)
  (hent:(execOp a.eval o).run P w = .ok (.enter f args) w:=by unfold execOp;go_simp):AllReadyH P .any ops Q S fuel listed a w (i :: I):=by
 subst D;refine AllReadyH.cons R (λK J=>?_) hs;rw[jP U];unfold Oper.wp;rw[hent,Oper.upon_enter];refine h.mono ?_;rintro e w' ⟨v,rfl,hS,O⟩;exact J _ _ hS O
theorem rA{J:List Nat}(i:Nat)(dst:Option Tmp)(zs:Wa){ty:TypeId}(V:∀ w,(zeroValue ty).run P w = .ok (.agg zs) w)(hS:S (w.alloc (.cells zs ty)))
  (h:wpAnyH P .any ops Q S fuel (listed.setIfInBounds i true) (a.put dst (.pointer (some ⟨w.heap.size,0,none⟩))) (w.alloc (.cells zs ty)))
  (hs:AllReadyH P .any ops Q S fuel listed a w J) {o:Oper} (R:ops[i]? = some o:=by rfl) (D:o.dst=dst:=by rfl) (I:o.op = .alloc ty:=by rfl) (U:Region.wanted o (yielded ops a.tmps)=true:=by kernel_rfl):AllReadyH P .any ops Q S fuel listed a w (i :: J):=by
 subst D;refine AllReadyH.cons R (λK O=>?_) hs;rw[jP U];unfold Oper.wp;have:(execOp a.eval o).run P w = .ok (.value (.pointer (some ⟨w.heap.size,0,none⟩))) (w.alloc (.cells zs ty)):=by
  unfold execOp;simp only[I];unfold Instr.alloc newVar newRow;simp[Sem.run_bind,V,Value.cells]
 rw[this,Oper.upon_value];exact O _ _ hS (λ_=>h)
end
end
section
open Go.RowKit
section
variable {P : Program} {w : Wd}
end
end
end Go.Proofs.YtjjlaipkkdncfaaGreatDoor
namespace Go.Proofs
open Go.Shelf
def Tryz.sortEnt_ren:Go.Shelf.Ren:=⟨fun|6=>95|15=>146|14=>145|28=>195|29=>196|20=>187|21=>188|22=>189|23=>190|24=>191|25=>192|26=>193|27=>194|46=>222|47=>223|48=>224|49=>225|50=>226|57=>240|n=>n,fun|22=>22|24=>26|25=>77|3=>3|39=>198|0=>0|53=>34|55=>181|4=>4|46=>292|45=>291|50=>250|5=>5|9=>9|66=>322|70=>326|76=>345|77=>346|n=>n,fun|n=>n⟩
theorem Tryz.sortEnt:Go.Proofs.SlLaysF0.n6 prog Tryz.sortEnt_ren:={
 mixed:=by kernel_rfl
 f6:=⟨Tryz.f95.name,by decide,func95.trans (congrArg some (by kernel_rfl))⟩
 f14:=⟨Tryz.f145.name,by decide,func145.trans (congrArg some (by kernel_rfl))⟩
 f15:=func146.trans (congrArg some (by kernel_rfl))
 f20:=⟨Tryz.f187.name,by decide,func187.trans (congrArg some (by kernel_rfl))⟩
 f21:=⟨Tryz.f188.name,by decide,func188.trans (congrArg some (by kernel_rfl))⟩
 f22:=⟨Tryz.f189.name,by decide,func189.trans (congrArg some (by kernel_rfl))⟩
 f23:=⟨Tryz.f190.name,by decide,func190.trans (congrArg some (by kernel_rfl))⟩
 f24:=⟨Tryz.f191.name,by decide,func191.trans (congrArg some (by kernel_rfl))⟩
 f25:=⟨Tryz.f192.name,by decide,func192.trans (congrArg some (by kernel_rfl))⟩
 f26:=⟨Tryz.f193.name,by decide,func193.trans (congrArg some (by kernel_rfl))⟩
 f27:=⟨Tryz.f194.name,by decide,func194.trans (congrArg some (by kernel_rfl))⟩
 f28:=func195.trans (congrArg some (by kernel_rfl))
 f29:=func196.trans (congrArg some (by kernel_rfl))
 f46:=⟨Tryz.f222.name,by decide,func222.trans (congrArg some (by kernel_rfl))⟩
 f47:=func223.trans (congrArg some (by kernel_rfl))
 f48:=func224.trans (congrArg some (by kernel_rfl))
 f49:=⟨Tryz.f225.name,by decide,func225.trans (congrArg some (by kernel_rfl))⟩
 f50:=⟨Tryz.f226.name,by decide,func226.trans (congrArg some (by kernel_rfl))⟩
 f57:=⟨Tryz.f240.name,by decide,func240.trans (congrArg some (by kernel_rfl))⟩
 t0:=underlying0
 a0:=isAgg0
 z0:=sizeOf0
 v0:=zeroValue0
 t3:=underlying3
 a3:=isAgg3
 z3:=sizeOf3
 v3:=zeroValue3
 t4:=underlying4
 a4:=isAgg4
 z4:=sizeOf4
 v4:=zeroValue4
 t5:=underlying5
 a5:=isAgg5
 z5:=sizeOf5
 v5:=zeroValue5
 t9:=underlying9
 a9:=isAgg9
 z9:=sizeOf9
 v9:=zeroValue9
 t22:=underlying22
 a22:=isAgg22
 z22:=sizeOf22
 v22:=zeroValue22
 t25:=underlying77
 a25:=isAgg77
 z25:=sizeOf77
 v25:=zeroValue77
 t39:=underlying198
 a39:=isAgg198
 z39:=sizeOf198
 v39:=zeroValue198
 t45:=underlying291
 a45:=isAgg291
 z45:=sizeOf291
 v45:=zeroValue291
 t46:=underlying292
 a46:=isAgg292
 z46:=sizeOf292
 v46:=zeroValue292
 t50:=underlying250
 a50:=isAgg250
 z50:=sizeOf250
 v50:=zeroValue250
 t53:=underlying34
 a53:=isAgg34
 z53:=sizeOf34
 v53:=zeroValue34
 t55:=underlying181
 a55:=isAgg181
 z55:=sizeOf181
 v55:=zeroValue181
 t66:=underlying322
 a66:=isAgg322
 z66:=sizeOf322
 v66:=zeroValue322
 t70:=underlying326
 a70:=isAgg326
 z70:=sizeOf326
 v70:=zeroValue326
 t76:=underlying345
 a76:=isAgg345
 z76:=sizeOf345
 v76:=zeroValue345
 t77:=underlying346
 a77:=isAgg346
 z77:=sizeOf346
 v77:=zeroValue346 }
end Go.Proofs
namespace Go.Proofs.YtjjlaipkkdncfaaGreatDoor
open Go.Proofs.Tryz
section
open Go.RowKit
theorem iP(w:Wd)(cs:Wa)(e s n base g:Nat)(hb:base<=w.heap.size)(hs:cs.size=n*s)(D:n<=maxLen)(hg:w.heap.size=g):(w.alloc (.cells cs e)).ownsRow base e s (.slice (some ⟨g,0,none⟩) n n) n cs.toList:=by
 subst hg;refine⟨by rw[jk,hs],.inr ⟨w.heap.size,n,cs,rfl,hb,heap_alloc_new w _,ja _,D,hs,?_⟩⟩;exact List.take_of_length_le (by rw[jk,hs];exact ja _)
theorem aM{w:Wd}{base e s n:Nat}{v:Value}{D:Wv}(h:w.ownsRow base e s v n D):∃ A cap,v = .slice A n cap/\Sn w s (.slice A n cap) n D/\∀ b off,A=some ⟨b,off,none⟩->base<=b/\b<w.heap.size:=by
 have hs:=Sn.own h;obtain⟨A,cap,rfl,_⟩:=id hs;exact⟨A,cap,rfl,hs,λb off e=>h.lt b (by rw[e];rfl)⟩
end
section
open Go.RowKit
attribute [local irreducible] wpQuiet wpAnyH
theorem fC(x n:Nat)(w:Wd)(K:x<4294967296)(h1:1<=n)(O:n<=31):
  Wc 221 #[.int .u32 x,.int .u64 n] w λe w'=>e = .returned (.int .u32 (cX x n))/\w'=w:=by
 have D:bits .or .u32 ((x:Int)/2 ^ n) ((x:Int)*2 ^ (32-n) % 4294967296)=((cX x n:Nat):Int):=by
  have h:=u32_or_nat (x/2 ^ n) (x*2 ^ (32-n) % 4294967296) (Nat.lt_of_le_of_lt (Nat.div_le_self _ _) K) (Nat.mod_lt _ (by omega));simp only[Int.natCast_emod,Int.natCast_mul,Int.natCast_pow,Int.natCast_ediv,Int.cast_ofNat_Int] at h;rw[h];unfold cX;rw[Nat.or_comm]
 have I:(1:Int)<=n:=by omega
 have J:(n:Int)<=31:=by omega
 go_enter func221,ntmps221
 go_wp2_with fail
 go_ret;refine⟨?_,rfl⟩;rw[<- D];rfl
theorem EU(w:Wd):Wc 184 #[] w (Rt w (.agg (arr 8 (c32 lB)).toArray)):=by
 go_enter func184,ntmps184
 obtain⟨O,I⟩:=je ((arr 8 (c32 lB)).toArray);have U:(prog.info? 231).map (·.size)=some O.size:=by rw[I,aC];kernel_rfl
 have a2:z32x8.size=O.size:=by rw[I,aC];exact aC 8 _
 have a3:O.all (·.oneCell')=true:=by rw[I];exact aP (λ_=>rfl)
 have a1:prog.built 231 [(0,.int .u32 1779033703),(1,.int .u32 3144134277),(2,.int .u32 1013904242),(3,.int .u32 2773480762),(4,.int .u32 1359893119),(5,.int .u32 2600822924),(6,.int .u32 528734635),(7,.int .u32 1541459225)]=some O:=by
  rw[I,BV]
  kernel_rfl
 go_upto_region 1 with (refine al 231 _ rfl rfl iV ?_)
 obtain⟨w1,D⟩:=je (w.alloc (.cells z32x8 231));have a0:Blk w1 w.heap.size 231 z32x8:=by rw[D];exact Blk.new _ _ _
 have K:Bw w w1:=by rw[D];exact(ji _ w).alloc (ja _) _
 rw[<- D];have HB:=jz K;have HO:=jz I;clear D I K;go_wp2_with (first
  | (refine gF 231 _ rfl rfl rfl a1 ?_)
  | (refine aN 231 (.tmp 0) (.tmp 1) rfl rfl rfl rfl a0 U a2 a3 ?_;intro w3 J R _ _;have V:=jz J;have Z:=jz R;clear J R))
 exact bodyPost_ret (results_cell_row rfl _ _ w.heap.size 231 _ (0,0) _ rfl V underlying231 rfl U) rfl ⟨by rw[<- HO.out],HB.trans Z⟩
theorem MW:(arr 64 (c32 lN)).toArray=#[.int .u32 1116352408,.int .u32 1899447441,.int .u32 3049323471,.int .u32 3921009573,.int .u32 961987163,.int .u32 1508970993,.int .u32 2453635748,.int .u32 2870763221,.int .u32 3624381080,.int .u32 310598401,.int .u32 607225278,.int .u32 1426881987,.int .u32 1925078388,.int .u32 2162078206,.int .u32 2614888103,.int .u32 3248222580,.int .u32 3835390401,.int .u32 4022224774,.int .u32 264347078,.int .u32 604807628,.int .u32 770255983,.int .u32 1249150122,.int .u32 1555081692,.int .u32 1996064986,.int .u32 2554220882,.int .u32 2821834349,.int .u32 2952996808,.int .u32 3210313671,.int .u32 3336571891,.int .u32 3584528711,.int .u32 113926993,.int .u32 338241895,.int .u32 666307205,.int .u32 773529912,.int .u32 1294757372,.int .u32 1396182291,.int .u32 1695183700,.int .u32 1986661051,.int .u32 2177026350,.int .u32 2456956037,.int .u32 2730485921,.int .u32 2820302411,.int .u32 3259730800,.int .u32 3345764771,.int .u32 3516065817,.int .u32 3600352804,.int .u32 4094571909,.int .u32 275423344,.int .u32 430227734,.int .u32 506948616,.int .u32 659060556,.int .u32 883997877,.int .u32 958139571,.int .u32 1322822218,.int .u32 1537002063,.int .u32 1747873779,.int .u32 1955562222,.int .u32 2024104815,.int .u32 2227730452,.int .u32 2361852424,.int .u32 2428436474,.int .u32 2756734187,.int .u32 3204031479,.int .u32 3329325298]:=by kernel_rfl
theorem EV(w:Wd):Wc 185 #[] w (Rt w (.agg (arr 64 (c32 lN)).toArray)):=by
 go_enter func185,ntmps185
 obtain⟨O,I⟩:=je ((arr 64 (c32 lN)).toArray);have U:(prog.info? 276).map (·.size)=some O.size:=by rw[I,aC];kernel_rfl
 have a2:z32x64.size=O.size:=by rw[I,aC];exact aC 64 _
 have a3:O.all (·.oneCell')=true:=by rw[I];exact aP (λ_=>rfl)
 have a1:prog.built 276 [(0,.int .u32 1116352408),(1,.int .u32 1899447441),(2,.int .u32 3049323471),(3,.int .u32 3921009573),(4,.int .u32 961987163),(5,.int .u32 1508970993),(6,.int .u32 2453635748),(7,.int .u32 2870763221),(8,.int .u32 3624381080),(9,.int .u32 310598401),(10,.int .u32 607225278),(11,.int .u32 1426881987),(12,.int .u32 1925078388),(13,.int .u32 2162078206),(14,.int .u32 2614888103),(15,.int .u32 3248222580),(16,.int .u32 3835390401),(17,.int .u32 4022224774),(18,.int .u32 264347078),(19,.int .u32 604807628),(20,.int .u32 770255983),(21,.int .u32 1249150122),(22,.int .u32 1555081692),(23,.int .u32 1996064986),(24,.int .u32 2554220882),(25,.int .u32 2821834349),(26,.int .u32 2952996808),(27,.int .u32 3210313671),(28,.int .u32 3336571891),(29,.int .u32 3584528711),(30,.int .u32 113926993),(31,.int .u32 338241895),(32,.int .u32 666307205),(33,.int .u32 773529912),(34,.int .u32 1294757372),(35,.int .u32 1396182291),(36,.int .u32 1695183700),(37,.int .u32 1986661051),(38,.int .u32 2177026350),(39,.int .u32 2456956037),(40,.int .u32 2730485921),(41,.int .u32 2820302411),(42,.int .u32 3259730800),(43,.int .u32 3345764771),(44,.int .u32 3516065817),(45,.int .u32 3600352804),(46,.int .u32 4094571909),(47,.int .u32 275423344),(48,.int .u32 430227734),(49,.int .u32 506948616),(50,.int .u32 659060556),(51,.int .u32 883997877),(52,.int .u32 958139571),(53,.int .u32 1322822218),(54,.int .u32 1537002063),(55,.int .u32 1747873779),(56,.int .u32 1955562222),(57,.int .u32 2024104815),(58,.int .u32 2227730452),(59,.int .u32 2361852424),(60,.int .u32 2428436474),(61,.int .u32 2756734187),(62,.int .u32 3204031479),(63,.int .u32 3329325298)]=some O:=by
  rw[I,MW]
  kernel_rfl
 go_upto_region 1 with (refine al 276 _ rfl rfl k9 ?_)
 obtain⟨w1,D⟩:=je (w.alloc (.cells z32x64 276));have a0:Blk w1 w.heap.size 276 z32x64:=by rw[D];exact Blk.new _ _ _
 have K:Bw w w1:=by rw[D];exact(ji _ w).alloc (ja _) _
 rw[<- D];have HB:=jz K;have HO:=jz I;clear D I K;go_wp2_with (first
  | (refine gF 276 _ rfl rfl rfl a1 ?_)
  | (refine aN 276 (.tmp 0) (.tmp 1) rfl rfl rfl rfl a0 U a2 a3 ?_;intro w3 J R _ _;have V:=jz J;have Z:=jz R;clear J R))
 exact bodyPost_ret (results_cell_row rfl _ _ w.heap.size 276 _ (0,0) _ rfl V underlying276 rfl U) rfl ⟨by rw[<- HO.out],HB.trans Z⟩
def pdA(m:Nat):List Nat:=128 :: List.replicate m 0
def pdB(n j:Nat):List Nat:=pdA (iC n)++arr j (λi=>8*n/256 ^ (7-i) % 256)
theorem lQ(m:Nat):(pdA m).length=1+m:=by unfold pdA;simp;omega
theorem EW(n j:Nat):(pdB n j).length=1+iC n+j:=by unfold pdB;rw[jj,lQ,aA]
theorem MY(m:Nat):pdA (m+1)=pdA m++[0]:=by unfold pdA;rw[List.replicate_succ'];rfl
theorem MZ(n j:Nat):pdB n (j+1)=pdB n j++[8*n/256 ^ (7-j) % 256]:=by
 unfold pdB arr;rw[List.range_succ,List.map_append,List.append_assoc];rfl
theorem Q1(n:Nat):pdB n 8=arr (dY n) (sK n):=by
 refine List.ext_getElem? λk=>?_
 rcases jo k (dY n) with D|D
 ·rw[dC _ D];unfold sK lA;unfold dY at D;unfold pdB;rcases Nat.eq_zero_or_pos k with e|e
  ·subst e;rw[jP rfl];rfl
  ·rw[jQ (by omega)];rcases jo k (1+iC n) with h|h
   ·rw[jQ (by unfold dY;omega),jy (by rw[lQ];exact h)];unfold pdA;obtain⟨q,rfl⟩:∃ q,k=q+1:=⟨k-1,by omega⟩;rw[jh,List.getElem?_replicate,jP (by omega)]
   ·rw[jP (by unfold dY;omega),jx (by rw[lQ];exact h),lQ,dC _ (by omega)];rw[show 7-(k-(1+iC n))=dY n-1-k from by unfold dY;omega]
 ·rw[List.getElem?_eq_none (by rw[EW];unfold dY at D;omega),List.getElem?_eq_none (by rw[aA];exact D)]
theorem dD(a b:List Nat):n8 (a++b)=n8 a++n8 b:=by simp[n8]
theorem zH(n:Nat)(w:Wd)(hn:n<=1000000000):
  Wc 183 #[.int .i64 n] w λe w'=>∃ v,e = .returned v/\w'.ownsRow w.heap.size 5 1 v (dY n) (n8 (arr (dY n) (sK n)))/\Bw w w':=by
 have c2:(0:Int)<=n:=by omega
 have c3:(n:Int)<=1000000000:=by omega
 have hZ:iC n<64:=by unfold iC;omega
 have HP:∀ m,m<iC n->((n:Int)+(1+(m:Int))+8) % 64≠0:=λm hm=>by unfold iC at hm;omega
 have HQ:((n:Int)+(1+((iC n:Nat):Int))+8) % 64=0:=by unfold iC;omega
 have a5:=jz HP;have a6:=jz HQ;clear HP HQ;go_enter func183,ntmps183
 go_upto_region 2 with fail
 obtain⟨w1,V⟩:=je (w.alloc (.cells #[.int .u8 128] 5));have a0:Hid (w1.ownsRow w.heap.size 5 1 (.slice (some ⟨w.heap.size,0,none⟩) 1 1) (1+0) (n8 (pdA 0))/\Bw w w1):=jz (by
  rw[V]
  exact⟨iP w #[.int .u8 128] 5 1 1 w.heap.size w.heap.size (ja _) rfl (by decide) rfl,(ji _ w).alloc (ja _) _⟩)
 rw[<- V];clear V;go_loopw [3] (λv wr=>∃ m,m<=iC n/\Hid (wr.ownsRow w.heap.size 5 1 v (1+m) (n8 (pdA m))/\Bw w wr)) (λv _=>80-slN v)
 case atStart=>exact⟨0,j0 _,a0⟩
 case round=>
  clear a0;obtain⟨m,hm,I⟩:=hrel;obtain⟨A,cap,rfl,U,_⟩:=aM I.out.1;clear U;have b2:(m:Int)<=100:=by omega
  have b9:(0:Int)<=(m:Int):=by omega
  rcases jo m (iC n) with a8|b3
  ·have c4:=a5.out m a8;go_wp2_with (at_builtin;refine app fQ (.tmp 14) (.tmp 15) rfl rfl rfl (I.out.1.alloc _) rfl (Sn.new wr #[.int .u8 0] _ 1 1 rfl) (by simp[Value.oneCell']) (by unfold maxLen;omega) (by omega) (by have:=I.out.2.size;simp;omega) ?_;intro v' w2 D hg O)
   have hL:n8 (pdA m)++(#[Value.int .u8 0]:Wa).toList=n8 (pdA (m+1)):=by rw[MY,dD];rfl
   rw[hL] at D;have HN:Hid (w2.ownsRow w.heap.size 5 1 v' (1+(m+1)) (n8 (pdA (m+1)))/\Bw w w2):=jz ⟨D,by
    refine(I.out.2.alloc I.out.2.size _).grown hg ?_ ?_
    ·have:=I.out.2.size;simp;omega
    ·exact λk hk=>(I.out.1.lt k hk).1⟩
   obtain⟨A9,c9,rfl,_,_⟩:=aM D;clear D hg O hL I;go_wp2_with fail
   exact⟨⟨m+1,by omega,HN⟩,by show 80-(1+(m+1))<80-(1+m);omega⟩
  ·have R:m=iC n:=by omega
   have a7:=a6.out;rw[<- R] at a7;have a1:=I;clear I;go_upto_region 6 with fail
   obtain⟨K,a2⟩:∃ K,K=8*n:=⟨_,rfl⟩;have hx:(n:Int)*8=(K:Int):=by omega
   have b0:(K:Int)<18446744073709551616:=by omega
   rw[hx];have a4:=jz a2;clear hx a2;go_loopw [3,5] (λv i wr=>∃ j:Nat,j<=8/\i = .int .i64 (7-(j:Int))/\Hid (wr.ownsRow w.heap.size 5 1 v (1+iC n+j) (n8 (pdB n j))/\Bw w wr)) (λ_ i _=>(intOf i+1).toNat)
   case atStart=>exact⟨0,j0 _,rfl,by
    have h:=a1.out
    rw[R] at h
    have e0:pdB n 0=pdA (iC n):=by unfold pdB arr;simp
    rw[e0,R]
    exact jz h⟩
   case round=>
    clear a1;obtain⟨j,hj,rfl,I⟩:=hrel;obtain⟨A2,a9,rfl,U,_⟩:=aM I.out.1;clear U;rcases jo j 8 with b7|b1
    ·obtain⟨q,hq⟩:∃ q,q=7-j:=⟨_,rfl⟩;have a3:(7:Int)-(j:Int)=(q:Int):=by omega
     rw[a3];have c5:(0:Int)<=(q:Int):=by omega
     have c6:(q:Int)<=7:=by omega
     have c7:iC n<64:=hZ;have Z:=jz hq;clear hq a3;go_wp2_with (at_builtin;refine app fQ (.tmp 24) (.tmp 31) rfl rfl rfl (I.out.1.alloc _) rfl (Sn.new wr #[.int .u8 ((K:Int)/2 ^ (8*q) % 256)] _ 1 1 rfl) (by simp[Value.oneCell']) (by unfold maxLen;omega) (by omega) (by have:=I.out.2.size;simp;omega) ?_;intro v' w2 D hg O)
     have J:(K:Int)/2 ^ (8*q) % 256=((8*n/256 ^ (7-j) % 256:Nat):Int):=by
      have e:(2:Int) ^ (8*(7-j))=((256 ^ (7-j):Nat):Int):=by
       rw[show(256:Nat)=2 ^ 8 from rfl,<- Nat.pow_mul,Int.natCast_pow];rfl
      rw[a4.out,Z.out,e,<- Int.natCast_ediv];rfl
     have hL:n8 (pdB n j)++(#[Value.int .u8 ((K:Int)/2 ^ (8*q) % 256)]:Wa).toList=n8 (pdB n (j+1)):=by rw[MZ,dD,J];rfl
     rw[hL] at D;have HN:Hid (w2.ownsRow w.heap.size 5 1 v' (1+iC n+(j+1)) (n8 (pdB n (j+1)))/\Bw w w2):=jz ⟨D,by
      refine(I.out.2.alloc I.out.2.size _).grown hg ?_ ?_
      ·have:=I.out.2.size;simp;omega
      ·exact λk hk=>(I.out.1.lt k hk).1⟩
     clear D hg O hL I J;go_wp2_with fail
     exact⟨⟨j+1,by omega,by have:=Z.out;go_num,HN⟩,by simp[intOf];omega⟩
    ·have h8:j=8:=by omega
     subst h8;go_wp2_with fail
     go_ret;refine⟨_,rfl,?_,I.out.2⟩;have h:=I.out.1;rw[Q1] at h;exact h
abbrev RdS:=Wl×Bool
def aF(k:Nat)(s:RdS):Nat×RdS:=if s.2=false/\k<=s.1.length then (beN (s.1.take k),(s.1.drop k,false)) else (0,([],true))
def cW(n:Nat)(s:RdS):Wl×RdS:=if s.2=false/\n<=s.1.length then (s.1.take n,(s.1.drop n,false)) else ([],([],true))
def aX(k:Nat)(s:RdS):Wl×RdS:=if (aF k s).2.2 then ([],(aF k s).2) else cW (aF k s).1 (aF k s).2
def fU(s:RdS):Bool:=!s.2 && decide (s.1.length=0)
def RDB(B:Nat)(w:Wd)(r:Nat)(s:RdS):Prop:=∃ v,RD w r v s.1 s.2/\(0<s.1.length->∀ b,v.ownBlock=some b->b<B)
def RDR(w:Wd)(r:Nat)(s:RdS):Prop:=∃ B,RDB B w r s
theorem RDB.keep{B:Nat}{w w':Wd}{r:Nat}{s:RdS}(h:RDB B w r s)(hb:Bw w w'):RDB B w' r s:=by
 obtain⟨v,h1,D⟩:=h;exact⟨v,⟨h1.1.keep hb,h1.2.below hb⟩,D⟩
theorem RDB.lt{B:Nat}{w:Wd}{r:Nat}{s:RdS}(h:RDB B w r s):r<w.heap.size:=by
 obtain⟨v,h1,D⟩:=h;exact h1.1.lt
theorem RDR.keep{w w':Wd}{r:Nat}{s:RdS}(h:RDR w r s)(hb:Bw w w'):RDR w' r s:=by
 obtain⟨B,h⟩:=h;exact⟨B,h.keep hb⟩
theorem RDR.lt{w:Wd}{r:Nat}{s:RdS}(h:RDR w r s):r<w.heap.size:=by
 obtain⟨B,h⟩:=h;exact h.lt
theorem RDB.off{B:Nat}{w w':Wd}{r g:Nat}{s:RdS}(h:RDB B w r s)(J:Off g w w')(V:r≠g)(hg:B<=g):RDB B w' r s:=by
 obtain⟨v,h1,I⟩:=h;refine⟨v,⟨J.blk h1.1 V,?_⟩,I⟩;obtain⟨A,cap,rfl,O,U,Z⟩:=h1.2;refine⟨A,cap,rfl,O,U,λK=>?_⟩;obtain⟨b,off,rfl,D⟩:=Z K;exact⟨b,off,rfl,λj u R=>J.cell (D j u R) (λe=>by have h5:=I K b rfl;have e:b=g:=e;omega)⟩
theorem RDB.new{w:Wd}{r:Nat}{v:Value}{K:Wl}{I:Bool}(h:RD w r v K I):RDB w.heap.size w r (K,I):=by
 refine⟨v,h,λO b hb=>?_⟩;obtain⟨A,cap,rfl,Z,hl,V⟩:=h.2;obtain⟨R,off,rfl,D⟩:=V O;injection hb with hb
 have J:0<(u8s K).length:=by rw[aK];exact O
 have U:R<w.heap.size:=eQ (D 0 _ (List.getElem?_eq_getElem J));rw[<- hb];exact U
theorem RDR.sn{w w':Wd}{r n:Nat}{s:RdS}{x:Value}{D:Wl}(h:RDR w r s)(hs:Sn w 1 x n (u8s D))(I:Off r w w'):Sn w' 1 x n (u8s D):=by
 obtain⟨B,v,h1,K⟩:=h;obtain⟨A,cap,J,_⟩:=id h1.2;exact hs.offB h1.1 J I
structure RdOk(s:RdS):Prop where
 bys:Bys s.1
 len:s.1.length<=1000000
theorem RdOk.num{s:RdS}(h:RdOk s)(k:Nat):RdOk (aF k s).2:=by
 unfold aF;split
 ·exact⟨λb hb=>h.bys b (List.mem_of_mem_drop hb),by show(s.1.drop k).length<=_;rw[List.length_drop];have:=h.len;omega⟩
 ·exact⟨λb hb=>(by cases hb),j0 _⟩
theorem RdOk.next{s:RdS}(h:RdOk s)(n:Nat):RdOk (cW n s).2:=by
 unfold cW;split
 ·exact⟨λb hb=>h.bys b (List.mem_of_mem_drop hb),by show(s.1.drop n).length<=_;rw[List.length_drop];have:=h.len;omega⟩
 ·exact⟨λb hb=>(by cases hb),j0 _⟩
theorem RdOk.str{s:RdS}(h:RdOk s)(k:Nat):RdOk (aX k s).2:=by
 unfold aX;split
 ·exact h.num k
 ·exact(h.num k).next _
theorem oG{s:RdS}(h:RdOk s)(n:Nat):Bys (cW n s).1/\(cW n s).1.length<=s.1.length:=by
 unfold cW;split
 ·exact⟨λb hb=>h.bys b (j7 hb),by show(s.1.take n).length<=_;rw[jv];omega⟩
 ·exact⟨λb hb=>(by cases hb),j0 _⟩
theorem JU(s:RdS)(k:Nat):(aF k s).2.1.length<=s.1.length:=by
 unfold aF;split
 ·show(s.1.drop k).length<=_;rw[List.length_drop];omega
 ·exact j0 _
theorem iQ{s:RdS}(h:RdOk s)(k:Nat):Bys (aX k s).1/\(aX k s).1.length<=s.1.length:=by
 unfold aX;split
 ·exact⟨λb hb=>(by cases hb),j0 _⟩
 ·have:=oG (h.num k) (aF k s).1;exact⟨this.1,jm this.2 (JU s k)⟩
theorem CF{s:RdS}(h:RdOk s)(k:Nat):(aF k s).1<256 ^ k:=by
 unfold aF;split
 ·rename_i D;have:=mI (s.1.take k) (λb hb=>h.bys b (j7 hb))
  rwa [jv,Nat.min_eq_left D.2] at this
 ·exact Nat.pow_pos (by decide)
theorem uL(r:Nat)(v:Value)(J:Wl)(K:Bool)(k:Nat)(w:Wd)(h:RD w r v J K)(hb:Bys J)(hl:J.length<=1000000)(c5:1<=k)(c6:k<=8):
    Wc 162 #[.pointer (some ⟨r,0,none⟩),.int .i64 k] w λe w'=>Off r w w' /\
      ((K = false /\ k <= J.length /\ ∃ v', e = .returned (.tuple #[.int .u64 (beN (J.take k)), .bool true]) /\ RD w' r v' (J.drop k) false /\ ∀ b, v'.ownBlock = some b -> v.ownBlock = some b) \/
       ((K=true\/J.length<k)/\e = .returned (.tuple #[.int .u64 0,.bool false])/\RD w' r (.slice none 0 0) [] true)):=by
  have HR:=jz h;clear h;have c2:(1:Int)<=k:=by omega
  have c4:(k:Int)<=8:=by omega
  go_enter func162,ntmps162
  go_wp2_with fail
  refine(tX r v J K k w HR hl).mono ?_;rintro e w1 ⟨ho,⟨rfl,b1,x,v',rfl,R,hR,a5⟩|⟨U,rfl,hR⟩⟩
  · obtain⟨A,cap,rfl,b7,_,_⟩:=id R;have a0:Bys (J.take k):=λb a9=>hb b (j7 a9)
    obtain⟨l,hL⟩:=je (J.take k);have a4:l.length=k:=by rw[hL,jv];omega
    rw[<- hL] at R a0;have HL:=jz hL;have a2:=jz a0;have a7:=jz R;have HO:=jz ho;have Z:=jz hR;have V:=jz a4;have a8:=jz a5;clear a5 hL R a0 ho hR b1 a4 hb;go_wp2_with fail
    go_loopw [30,8] (λi x wr=>∃ j:Nat,j<=k/\i = .int .i64 j/\x = .int .u64 (beN (l.take j))/\wr=w1) (λi _ _=>k-(intOf i).toNat)
    case atStart=>exact⟨0,j0 _,rfl,rfl,rfl⟩
    case round=>
      obtain⟨j,hj,rfl,rfl,rfl⟩:=hrel;by_cases hlt:j<k
      · obtain⟨A',b3,hA,_,b2,D⟩:=a7.out;injection hA with hA _ _
        subst hA;obtain⟨b,off,rfl,hr⟩:=D (by omega);have a1:j<l.length:=by rw[V.out];exact hlt
        have hc:=hr j _ (oX l j a1);have b0:=a2.out l[j] (List.getElem_mem a1);obtain⟨c,a3⟩:∃ c:Nat,l[j]=c:=⟨l[j].toNat,by omega⟩;have O:=tJ l j a1;rw[a3] at hc O b0;have I:beN (l.take j)<256 ^ j:=by
          have:=mI (l.take j) (λb hb=>a2.out b (j7 hb))
          rwa [jv,Nat.min_eq_left (by omega)] at this
        obtain⟨y,hy⟩:=je (beN (l.take j));rw[<- hy] at O I;rw[<- hy];have a6:=jz O;have c7:bits .or .u64 (IntKind.u64.wrap ((y:Int)*256)) (c:Int)=((y*256+c:Nat):Int):=GM y c j (by omega) I (by omega);have b9:(0:Int)<=j:=by omega
        have c3:(j:Int)<k:=by omega
        clear hr D O hy a3 b2;go_wp2_with fail
        refine⟨⟨j+1,by omega,by go_num,?_,by trivial⟩,by simp[intOf];omega⟩;rw[a6.out];simp
      · obtain rfl:j=k:=by omega
        rw[List.take_of_length_le (by rw[V.out];omega)];go_wp2_with fail
        go_ret2
        refine⟨HO,.inl ⟨?_,?_,v',Z,a8⟩⟩
        · have:=V.out;rw[HL.out,jv] at this;omega
        · rw[HL.out];rfl
  · have HO:=jz ho;have Z:=jz hR;have HB:=jz U;clear ho hR U;go_wp2_with fail
    go_ret2
    exact⟨HO,.inr ⟨HB,rfl,Z⟩⟩
theorem EY(r:Nat)(v:Value)(J:Wl)(I:Bool)(k:Nat)(w:Wd)(h:RD w r v J I)(hb:Bys J)(hl:J.length<=1000000)(U:1<=k)(V:k<=8):
    Wc 112 #[.pointer (some ⟨r,0,none⟩),.int .i64 k] w λe w'=>Off r w w' /\
      ((I = false /\ k <= J.length /\ ∃ v', e = .returned (.int .u64 (beN (J.take k))) /\ RD w' r v' (J.drop k) false /\ ∀ b, v'.ownBlock = some b -> v.ownBlock = some b) \/
       ((I=true\/J.length<k)/\e = .returned (.int .u64 0)/\RD w' r (.slice none 0 0) [] true)):=by
  go_enter func112,ntmps112
  have HR:=jz h;clear h;go_wp2_with fail
  refine(uL r v J I k w HR hb hl U V).mono ?_;rintro e w1 ⟨ho,⟨D,Z,v',rfl,R,a0⟩|⟨D,rfl,R⟩⟩
  all_goals
    have HO:=jz ho;have O:=jz R;have K:=jz D;clear ho R D;go_wp2_with fail
    go_ret
  · exact⟨HO,.inl ⟨K,Z,v',rfl,O,a0⟩⟩
  · exact⟨HO,.inr ⟨K,rfl,O⟩⟩
section
variable {B : Nat} {w : Wd} {r : Nat} {s : RdS}
theorem qK(I:Value)(D:Wl)(w:Wd)(hs:Sn w 1 I D.length (u8s D))(R:D.length<=1000000):
  Wc 110 #[I] w λe w'=>∃ r,e = .returned (.pointer (some ⟨r,0,none⟩))/\RDB w'.heap.size w' r (D,false)/\w.heap.size<=r/\Bw w w':=by
 refine(xJ I D w hs R).mono ?_;rintro e w' ⟨r,v,h1,J,U,K,O⟩;exact⟨r,h1,RDB.new J,K,O⟩
theorem JV(I:Value)(D:Wl)(w:Wd)(hs:Sn w 1 I D.length (u8s D))(O:D.length<=1000000):
  Wc 110 #[I] w λe w'=>∃ r,e = .returned (.pointer (some ⟨r,0,none⟩))/\RDR w' r (D,false)/\w.heap.size<=r/\Bw w w':=by
 refine(qK I D w hs O).mono ?_;rintro e w' ⟨r,h1,J,K⟩;exact⟨r,h1,⟨_,J⟩,K⟩
theorem EZ(k:Nat)(h:RDB B w r s)(hs:RdOk s)(J:1<=k)(K:k<=8):
  Wc 162 #[.pointer (some ⟨r,0,none⟩),.int .i64 k] w λe w'=>Off r w w'/\RDB B w' r (aF k s).2/\e = .returned (.tuple #[.int .u64 ((aF k s).1:Nat),.bool (!(aF k s).2.2)]):=by
 obtain⟨v,h,Z⟩:=h;refine(uL r v s.1 s.2 k w h hs.bys hs.len J K).mono ?_;rintro e w' ⟨U,⟨h1,V,v',rfl,I,R⟩|⟨h1,rfl,I⟩⟩
 ·have D:aF k s=(beN (s.1.take k),(s.1.drop k,false)):=jP ⟨h1,V⟩;rw[D];exact⟨U,⟨v',I,λO b e=>Z (by simp only[List.length_drop] at O;omega) b (R b e)⟩,rfl⟩
 ·have D:aF k s=(0,([],true)):=jQ (by
   rintro⟨a,b⟩
   rcases h1 with h1|h1
   ·rw[a] at h1;cases h1
   ·omega)
  rw[D];exact⟨U,⟨_,I,λO=>by cases O⟩,rfl⟩
theorem fK(k:Nat)(h:RDB B w r s)(hs:RdOk s)(J:1<=k)(K:k<=8):
  Wc 112 #[.pointer (some ⟨r,0,none⟩),.int .i64 k] w λe w'=>Off r w w'/\RDB B w' r (aF k s).2/\e = .returned (.int .u64 ((aF k s).1:Nat)):=by
 obtain⟨v,h,Z⟩:=h;refine(EY r v s.1 s.2 k w h hs.bys hs.len J K).mono ?_;rintro e w' ⟨U,⟨h1,V,v',rfl,I,R⟩|⟨h1,rfl,I⟩⟩
 ·have D:aF k s=(beN (s.1.take k),(s.1.drop k,false)):=jP ⟨h1,V⟩;rw[D];exact⟨U,⟨v',I,λO b e=>Z (by simp only[List.length_drop] at O;omega) b (R b e)⟩,rfl⟩
 ·have D:aF k s=(0,([],true)):=jQ (by
   rintro⟨a,b⟩
   rcases h1 with h1|h1
   ·rw[a] at h1;cases h1
   ·omega)
  rw[D];exact⟨U,⟨_,I,λO=>by cases O⟩,rfl⟩
theorem uM(h:RDB B w r s):Wc 114 #[.pointer (some ⟨r,0,none⟩)] w λe w'=>e = .returned (.bool (fU s))/\w=w':=by
 obtain⟨v,h,_⟩:=h;exact GO r v s.1 s.2 w h
theorem oH(k:Nat)(h:RDB B w r s)(hs:RdOk s)(c2:1<=k)(c3:k<=8):
  Wc 113 #[.pointer (some ⟨r,0,none⟩),.int .i64 k] w λe w'=>Off r w w'/\RDB B w' r (aX k s).2/\∃ y,e = .returned y/\Sn w' 1 y (aX k s).1.length (u8s (aX k s).1)/\∀ b,y.ownBlock=some b->w.heap.size<=b:=by
 have U:=jz (EZ k h hs c2 c3);have HS:Hid (aX k s=if (aF k s).2.2 then ([],(aF k s).2) else cW (aF k s).1 (aF k s).2):=jz rfl;have Z:=jz (hs.num k);obtain⟨x,hx⟩:=je (aF k s);rw[<- hx] at U HS Z;clear h hs hx;obtain⟨n,D,b9⟩:=x;cases b9 with
 | true=>
  have hb:(!true)=false:=rfl;simp only[hb] at U;clear hb;go_enter func113,ntmps113
  go_wp2_with fail
  refine U.mono ?_;rintro e w1 ⟨ho,J,rfl⟩;have HO:=jz ho;have HR:=jz J;clear ho J U;go_wp2_with fail
  go_ret;have e1:aX k s=([],(D,true)):=HS.out;rw[e1];obtain⟨v,J,hv⟩:=HR.out;exact⟨HO,⟨v,J,hv⟩,_,rfl,⟨none,0,rfl,ja _,rfl,λh=>absurd h (by simp)⟩,λb h=>by cases h⟩
 | false=>
  have hb:(!false)=true:=rfl;simp only[hb] at U;clear hb;have e1:aX k s=cW n (D,false):=HS.out;have HE:=jz e1;clear e1 HS;go_enter func113,ntmps113
  go_wp2_with fail
  refine U.mono ?_;rintro e w1 ⟨ho,J,rfl⟩;obtain⟨v,J,hv⟩:=J;have a8:=jz hv;clear hv;have HO:=jz ho;have HR:=jz J;have V:=jz (tX r v D false n w1 J Z.len);clear ho J U;go_wp2_with fail
  refine V.mono ?_;rintro e w2 ⟨I,⟨_,a3,x,v',rfl,a4,hR,a6⟩|⟨O,rfl,hR⟩⟩
  ·have a0:=jz (HO.trans I);have K:=jz hR;have b7:=jz a6;clear a6;have b1:=jz a4;have HK:=jz a3;have hn:=Z.len;have b0:Hid (n<=1000000):=jz (by show n<=_;simp only at hn;omega);have b3:=jz (HO.size);have a1:=jz (I.size);clear I hR a4 a3 hn V;go_wp2_with fail
   refine(o6 x n (u8s (D.take n)) w2 b1 (cI _) b0).mono ?_;rintro e w3 ⟨y,rfl,a5,hfr,a2⟩;have b2:=jz a5;have a9:=jz hfr;have R:=jz a2;clear a5 hfr a2;go_wp2_with fail
   go_ret;have e2:cW n (D,false)=(D.take n,(D.drop n,false)):=jP ⟨rfl,HK⟩;rw[HE.out,e2];refine⟨a0.trans (Off.of_below R),⟨v',⟨K.out.1.keep R,K.out.2.below R⟩,λhp b e=>a8.out (by have h7:0<(D.drop n).length:=hp;rw[List.length_drop] at h7;show 0<D.length;omega) b (b7 b e)⟩,y,rfl,?_,λb e=>jm (jm b3 a1) (a9 b e)⟩;have hl:(D.take n).length=n:=by rw[jv];have:=HK.out;omega
   rw[show((D.take n,(D.drop n,false)):Wl×RdS).1=D.take n from rfl,hl];exact b2.out
  ·have a0:=jz (HO.trans I);have K:=jz hR;have a7:=jz O;clear I hR O V;go_wp2_with fail
   go_ret;have e2:cW n (D,false)=([],([],true)):=jQ (by
    rintro⟨_,h⟩
    rcases a7 with h1|h1
    ·cases h1
    ·simp only at h;omega)
   rw[HE.out,e2];exact⟨a0,⟨_,K,λhp=>by cases hp⟩,_,rfl,⟨none,0,rfl,ja _,rfl,λh=>absurd h (by simp)⟩,λb h=>by cases h⟩
theorem M0(n:Nat)(h:RDB B w r s)(hs:RdOk s)(Z:n<=1000000):
  Wc 169 #[.pointer (some ⟨r,0,none⟩),.int .i64 n] w λe w'=>Off r w w'/\RDB B w' r (cW n s).2/\∃ y,e = .returned y/\Sn w' 1 y (cW n s).1.length (u8s (cW n s).1):=by
 obtain⟨v,h,hv⟩:=h;refine(AZ r v s.1 s.2 n w h hs.len Z).mono ?_;rintro e w' ⟨R,⟨h1,U,x,v',rfl,K,I,O⟩|⟨h1,rfl,I⟩⟩
 ·have D:cW n s=(s.1.take n,(s.1.drop n,false)):=jP ⟨h1,U⟩;rw[D];have V:(s.1.take n).length=n:=by rw[jv];omega
  refine⟨R,⟨v',I,λJ b e=>hv (by simp only[List.length_drop] at J;omega) b (O b e)⟩,x,rfl,?_⟩;rw[show((s.1.take n,(s.1.drop n,false)):Wl×RdS).1=s.1.take n from rfl,V];exact K
 ·have D:cW n s=([],([],true)):=jQ (by
   rintro⟨a,b⟩
   rcases h1 with h1|h1
   ·rw[a] at h1;cases h1
   ·omega)
  rw[D];exact⟨R,⟨_,I,λJ=>by cases J⟩,_,rfl,⟨none,0,rfl,ja _,rfl,λh=>absurd h (by simp)⟩⟩
theorem E0(k:Nat)(h:RDR w r s)(hs:RdOk s)(D:1<=k)(I:k<=8):
  Wc 112 #[.pointer (some ⟨r,0,none⟩),.int .i64 k] w λe w'=>Off r w w'/\RDR w' r (aF k s).2/\e = .returned (.int .u64 ((aF k s).1:Nat)):=by
 obtain⟨B,h⟩:=h;exact(fK k h hs D I).mono λe w' ⟨h1,h2,h3⟩=>⟨h1,⟨B,h2⟩,h3⟩
theorem M4(h:RDR w r s):Wc 114 #[.pointer (some ⟨r,0,none⟩)] w λe w'=>e = .returned (.bool (fU s))/\w=w':=by
 obtain⟨B,h⟩:=h;exact uM h
theorem uN(k:Nat)(h:RDR w r s)(hs:RdOk s)(D:1<=k)(I:k<=8):
  Wc 113 #[.pointer (some ⟨r,0,none⟩),.int .i64 k] w λe w'=>Off r w w'/\RDR w' r (aX k s).2/\∃ y,e = .returned y/\Sn w' 1 y (aX k s).1.length (u8s (aX k s).1)/\∀ b,y.ownBlock=some b->w.heap.size<=b:=by
 obtain⟨B,h⟩:=h;exact(oH k h hs D I).mono λe w' ⟨h1,h2,h3⟩=>⟨h1,⟨B,h2⟩,h3⟩
end
end
end Go.Proofs.YtjjlaipkkdncfaaGreatDoor
