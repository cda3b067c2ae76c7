import Derived.Test.YtiaigidbcljblaaGreatDoorMB21
set_option linter.unusedSimpArgs false
set_option maxRecDepth 100000
set_option maxHeartbeats 40000000
namespace Go.Proofs.YtiaigidbcljblaaGreatDoor
open Go.Proofs.Tryz
open Go.RowKit
theorem WW(s:Bs)(k:Nat)(_:k<s.length)(h:k<(SBy s).size):(SBy s)[k]'h=s[k]:=by
 show(SBy s).data[k]=_;simp[SBy];rfl
theorem GJ(s:Bs)(k:Nat)(j:k<s.length)(w:Wd):(Instr.index 9 (.string (SBy s)) (.int .i64 (k:Int))).run prog w = .ok (.int .u8 (s[k].toNat:Int)) w:=by
 rw[run_index_string w 9 (SBy s) .i64 (k:Int) underlying9,dif_pos (by rw[dY];omega)];simp only[Int.toNat_natCast];rw[WW s k j];rfl
theorem DU{S:ByteArray}(h:S≠⟨#[]⟩):S.toList.isEmpty=false:=by
 rw[Bool.eq_false_iff];intro e;rw[ByteArray.toList_eq,List.isEmpty_iff] at e;exact h (ByteArray.ext (Array.toList_inj.1 e))
def gG(s:Bs):Int×Bool:=match kY s with
 | some n=>((n:Int),true)
 | none=>(0,false)
theorem fU{s:Bs}(h:kY s=none):gG s=(0,false):=by unfold gG;rw[h]
theorem rQ{s:Bs}{n:Nat}(h:kY s=some n):gG s=((n:Int),true):=by unfold gG;rw[h]
theorem qA(s:Bs):kY s=if decide (1<=s.length) && (decide (s.length<=13) && ((s.head? != some 48 || s.length == 1) && s.all d9)) then some (iL s) else none:=rfl
theorem oW{s:Bs}{k:Nat}(j:k<s.length)(p:UInt8->Bool):(s.take (k+1)).all p=((s.take k).all p && p s[k]):=by
 rw[j6 j,List.all_append];simp
theorem zD{s:Bs}{k:Nat}(j:k<s.length):iL (s.take (k+1))=iL (s.take k)*10+(s[k].toNat-48):=by
 rw[j6 j,rI]
theorem QA{k:Nat}(h:k<=13):10 ^ k<=10000000000000:=jm (Nat.pow_le_pow_right (by omega) h) (by decide)
theorem fI(s:Bs)(w:Wd)(hm:s.length<=9223372036854775807):
  Wc 95 #[.string (SBy s)] w λe w'=>e = .returned (.tuple #[.int .i64 (gG s).1,.bool (gG s).2])/\w'=w:=by
 have a1:=GJ s;obtain⟨S,hS⟩:=je (SBy s);have c6:S.size=s.length:=by rw[hS,dY]
 rw[<- hS] at a1 ⊢;have O:=jz a1;clear a1 hS;rcases jb (decide ((s.length:Int)<1)) with t1|t1
 ·have HN:Hid (gG s=(0,false)):=jz (fU (by rw[qA,jQ];simp at t1 ⊢;omega));go_enter func95,ntmps95
  go_wp2_with fail
  go_ret2
  exact⟨by rw[HN.out];rfl,rfl⟩
 rcases jb (decide ((13:Int)<s.length)) with t2|t2
 ·have HN:Hid (gG s=(0,false)):=jz (fU (by rw[qA,jQ];simp at t2 ⊢;omega));go_enter func95,ntmps95
  go_wp2_with fail
  go_ret2
  exact⟨by rw[HN.out];rfl,rfl⟩
 have c2:1<=s.length:=by have:=of_decide_eq_false t1;omega
 have c3:s.length<=13:=by have:=of_decide_eq_false t2;omega
 have a7:∀ w,(Instr.index 9 (.string S) (.int .i64 0)).run prog w = .ok (.int .u8 ((s[0]'(by omega)).toNat:Int)) w:=λw=>O.out 0 (by omega) w
 obtain⟨b0,Z⟩:=je (s[0]);rw[<- Z] at a7;have a6:s.head? = some b0:=by rw[Z,List.head?_eq_getElem?,List.getElem?_eq_getElem]
 obtain⟨z0,a3⟩:=je ((b0.toNat:Int));rw[<- a3] at a7;have a4:=jz (show(b0=48) ↔ z0=48 by
  rw[a3]
  constructor
  ·rintro rfl;rfl
  ·intro h;exact UInt8.toNat_inj.1 (by have:(48:UInt8).toNat=48:=rfl;omega))
 have a5:=jz a6;clear Z a6 a3;have go:((z0 == 48) && decide ((1:Int)<s.length))=false->Wc 95 #[.string S] w λe w'=>e = .returned (.tuple #[.int .i64 (gG s).1,.bool (gG s).2])/\w'=w:=by
  intro x;have HL:Hid (kY s=if s.all d9 then some (iL s) else none):=jz (by
   rw[qA,a5.out]
   have h:(some b0 != some 48 || s.length == 1)=true:=by
    rw[Bool.or_eq_true,bne_iff_ne,beq_iff_eq]
    rw[Bool.and_eq_false_iff] at x
    rcases x with h|h
    ·left
     intro e
     have:=a4.out.1 (Option.some.inj e)
     rw[this] at h
     cases h
    ·right;have:=of_decide_eq_false h;omega
   rw[h]
   simp[c2,c3])
  have body:∀(Q:Prop),Q->Q:=λ_ h=>h
  rcases jb (z0 == 48) with t3|t3
  ·rw[t3] at x;simp only[Bool.true_and,Bool.false_and] at x;go_enter func95,ntmps95
   go_wp2_with fail
   go_loopw [4,26] (λn i wr=>∃ k:Nat,k<=s.length/\i = .int .i64 k/\n = .int .i64 (iL (s.take k):Nat)/\Hid ((s.take k).all d9=true)/\wr=w) (λ_ i _=>s.length-(intOf i).toNat)
   case atStart=>exact⟨0,j0 _,rfl,rfl,jz rfl,rfl⟩
   case round=>
    obtain⟨k,hk,rfl,rfl,U,hw⟩:=hrel;rw[hw];clear hw;rcases jo k s.length with j|a9
    ·have hi:=O.out k j;have I:=jz (zD j);have HA:=jz (oW j d9);have a2:=AQ k (s.take k) (by rw[jv];omega) U.out;have a8:=QA (show k<=13 by omega);obtain⟨b,hb⟩:=je (s[k]);rw[<- hb] at hi I HA;have HS:=jz (show d9 b=true->s.all d9=true\/True from λ_=>.inr trivial);have HB:Hid (d9 b=false->s.all d9=false):=jz (λh=>by
      rw[Bool.eq_false_iff]
      intro h2
      have:=List.all_eq_true.1 h2 s[k] (List.getElem_mem j)
      rw[<- hb,h] at this
      cases this)
     have a0:=UInt8.toNat_lt b;obtain⟨z,hz⟩:=je b.toNat;rw[<- hz] at hi I a0;have K:Hid (d9 b=(decide (48<=z) && decide (z<=57))):=jz (by rw[hz];rfl);obtain⟨v,hv⟩:=je (iL (s.take k));rw[<- hv] at I a2 ⊢;clear hz hv hb HS;have b1:(0:Int)<=k:=by omega
     have b7:(k:Int)<s.length:=by omega
     rcases jb (decide ((z:Int)<48)) with J|J
     ·have D:Hid (gG s=(0,false)):=jz (fU (by
       rw[HL.out,HB.out (by rw[K.out];have:=of_decide_eq_true J;simp;omega)];rfl))
      go_wp2_with fail
      go_ret2
      exact⟨by rw[D.out];rfl,rfl⟩
     ·rcases jb (decide ((57:Int)<z)) with t5|t5
      ·have D:Hid (gG s=(0,false)):=jz (fU (by
        rw[HL.out,HB.out (by rw[K.out];have:=of_decide_eq_true t5;simp;omega)];rfl))
       go_wp2_with fail
       go_ret2
       exact⟨by rw[D.out];rfl,rfl⟩
      ·have c4:48<=z:=by have:=of_decide_eq_false J;omega
       have c5:z<=57:=by have:=of_decide_eq_false t5;omega
       have y1:IntKind.i64.wrap ((v:Int)*10)=(v:Int)*10:=IntWalk.i64_in _ (by omega);have y2:IntKind.u8.wrap ((z:Int)-48)=(z:Int)-48:=by unfold IntKind.wrap;simp[IntKind.signed,IntKind.bits];omega
       have y3:IntKind.i64.wrap ((z:Int)-48)=(z:Int)-48:=IntWalk.i64_in _ (by omega);have y4:IntKind.i64.wrap ((v:Int)*10+((z:Int)-48))=(v:Int)*10+((z:Int)-48):=IntWalk.i64_in _ (by omega);have HE:Hid ((v:Int)*10+((z:Int)-48)=((v*10+(z-48):Nat):Int)):=jz (by omega);have R:Hid ((s.take (k+1)).all d9=true):=jz (by rw[HA.out,U.out,K.out];simp;omega);go_wp2_with fail
       exact⟨⟨k+1,by omega,by go_num,by rw[I.out,<- HE.out],R,by trivial⟩,by simp[intOf];omega⟩
    ·obtain rfl:k=s.length:=by omega
     have V:=U.out;rw[List.take_length] at V;have D:Hid (gG s=(((iL s:Nat):Int),true)):=jz (rQ (by rw[HL.out,jP V]));clear V;rw[List.take_length];go_wp2_with fail
     go_ret2
     exact⟨by rw[D.out];rfl,rfl⟩
  ·rw[t3] at x;simp only[Bool.true_and,Bool.false_and] at x;go_enter func95,ntmps95
   go_wp2_with fail
   go_loopw [4,26] (λn i wr=>∃ k:Nat,k<=s.length/\i = .int .i64 k/\n = .int .i64 (iL (s.take k):Nat)/\Hid ((s.take k).all d9=true)/\wr=w) (λ_ i _=>s.length-(intOf i).toNat)
   case atStart=>exact⟨0,j0 _,rfl,rfl,jz rfl,rfl⟩
   case round=>
    obtain⟨k,hk,rfl,rfl,U,hw⟩:=hrel;rw[hw];clear hw;rcases jo k s.length with j|a9
    ·have hi:=O.out k j;have I:=jz (zD j);have HA:=jz (oW j d9);have a2:=AQ k (s.take k) (by rw[jv];omega) U.out;have a8:=QA (show k<=13 by omega);obtain⟨b,hb⟩:=je (s[k]);rw[<- hb] at hi I HA;have HS:=jz (show d9 b=true->s.all d9=true\/True from λ_=>.inr trivial);have HB:Hid (d9 b=false->s.all d9=false):=jz (λh=>by
      rw[Bool.eq_false_iff]
      intro h2
      have:=List.all_eq_true.1 h2 s[k] (List.getElem_mem j)
      rw[<- hb,h] at this
      cases this)
     have a0:=UInt8.toNat_lt b;obtain⟨z,hz⟩:=je b.toNat;rw[<- hz] at hi I a0;have K:Hid (d9 b=(decide (48<=z) && decide (z<=57))):=jz (by rw[hz];rfl);obtain⟨v,hv⟩:=je (iL (s.take k));rw[<- hv] at I a2 ⊢;clear hz hv hb HS;have b1:(0:Int)<=k:=by omega
     have b7:(k:Int)<s.length:=by omega
     rcases jb (decide ((z:Int)<48)) with J|J
     ·have D:Hid (gG s=(0,false)):=jz (fU (by
       rw[HL.out,HB.out (by rw[K.out];have:=of_decide_eq_true J;simp;omega)];rfl))
      go_wp2_with fail
      go_ret2
      exact⟨by rw[D.out];rfl,rfl⟩
     ·rcases jb (decide ((57:Int)<z)) with t5|t5
      ·have D:Hid (gG s=(0,false)):=jz (fU (by
        rw[HL.out,HB.out (by rw[K.out];have:=of_decide_eq_true t5;simp;omega)];rfl))
       go_wp2_with fail
       go_ret2
       exact⟨by rw[D.out];rfl,rfl⟩
      ·have c4:48<=z:=by have:=of_decide_eq_false J;omega
       have c5:z<=57:=by have:=of_decide_eq_false t5;omega
       have y1:IntKind.i64.wrap ((v:Int)*10)=(v:Int)*10:=IntWalk.i64_in _ (by omega);have y2:IntKind.u8.wrap ((z:Int)-48)=(z:Int)-48:=by unfold IntKind.wrap;simp[IntKind.signed,IntKind.bits];omega
       have y3:IntKind.i64.wrap ((z:Int)-48)=(z:Int)-48:=IntWalk.i64_in _ (by omega);have y4:IntKind.i64.wrap ((v:Int)*10+((z:Int)-48))=(v:Int)*10+((z:Int)-48):=IntWalk.i64_in _ (by omega);have HE:Hid ((v:Int)*10+((z:Int)-48)=((v*10+(z-48):Nat):Int)):=jz (by omega);have R:Hid ((s.take (k+1)).all d9=true):=jz (by rw[HA.out,U.out,K.out];simp;omega);go_wp2_with fail
       exact⟨⟨k+1,by omega,by go_num,by rw[I.out,<- HE.out],R,by trivial⟩,by simp[intOf];omega⟩
    ·obtain rfl:k=s.length:=by omega
     have V:=U.out;rw[List.take_length] at V;have D:Hid (gG s=(((iL s:Nat):Int),true)):=jz (rQ (by rw[HL.out,jP V]));clear V;rw[List.take_length];go_wp2_with fail
     go_ret2
     exact⟨by rw[D.out];rfl,rfl⟩
 rcases jb ((z0 == 48) && decide ((1:Int)<s.length)) with x|x
 ·have HN:Hid (gG s=(0,false)):=jz (fU (by
   rw[qA,a5.out,jQ]
   rw[Bool.and_eq_true,beq_iff_eq] at x
   have h1:=a4.out.2 x.1
   have h2:=of_decide_eq_true x.2
   rw[h1]
   simp
   omega))
  rw[Bool.and_eq_true] at x;have t3:=x.1;have J:=x.2;clear x go;go_enter func95,ntmps95
  go_wp2_with fail
  go_ret2
  exact⟨by rw[HN.out];rfl,rfl⟩
 ·exact go x
theorem fE(l:Bs):∀ u∈Lib.byteCells l,u.oneCell'=true:=by
 intro u j;simp only[Lib.byteCells,List.mem_map] at j;obtain⟨_,_,rfl⟩:=j;rfl
theorem cK(x y:Bs):Lib.byteCells (x++y)=Lib.byteCells x++Lib.byteCells y:=by simp[Lib.byteCells]
def OwnB(w:Wd)(base:Nat)(v:Value)(l:Bs):Prop:=w.ownsRow base 5 1 v l.length (Lib.byteCells l)
theorem OwnB.conv{w:Wd}{base:Nat}{v:Value}{l:Bs}(h:OwnB w base v l):(convert 68 9 v).run prog w = .ok (.string (SBy l)) w:=by
 rcases h.2 with ⟨rfl,J⟩|⟨g,x,I,rfl,_,O,_⟩
 ·have D:l=[]:=List.eq_nil_of_length_eq_zero J;rw[run_convert_bytes_nil w 68 5 underlying68 underlying5 _ _ _ underlying9,D];rfl
 ·exact run_convert_bytes_back w 68 9 5 ⟨g,0,none⟩ x l underlying68 underlying5 underlying9 (λj K=>by
   have:=World.ownsRow.cells h (g:=g) rfl j (.int .u8 (l[j].toNat:Int)) (by simp[Lib.byteCells,K])
   exact this)
def digitsS:ByteArray:=⟨#[48,49,50,51,52,53,54,55,56,57,97,98,99,100,101,102]⟩
theorem DV(l:Bs):(LG l).length=2*l.length:=by
 induction l with
 | nil=>rfl
 | cons b l ih=>
  show(AP _ :: AP _ :: LG l).length=_;simp only[List.length_cons,ih];omega
def OwnT(w:Wd)(base:Nat)(v:Value)(l:Bs):Prop:=
 (v = .slice none 0 0/\l=[]) \/
 ∃ g cap cur fz,v = .slice (some ⟨g,0,none⟩) l.length cap/\base<=g/\w.heap[g]? = some (.cells cur 5 fz)/\(fz=(0,0)\/cap<=fz.1)/\l.length<=cap/\cap<=maxLen/\cur.size=cap/\cur.toList.take l.length=Lib.byteCells l
theorem OwnT.of{w:Wd}{base:Nat}{v:Value}{l:Bs}(h:OwnB w base v l):OwnT w base v l:=by
 rcases h.2 with ⟨h1,x⟩|⟨g,cap,j,h1,x,D,I,J,K,O⟩
 ·exact .inl ⟨h1,List.eq_nil_of_length_eq_zero x⟩
 ·exact .inr ⟨g,cap,j,(0,0),h1,x,D,.inl rfl,I,J,by simpa using K,by simpa using O⟩
theorem OwnT.nil(w:Wd)(base:Nat):OwnT w base (.slice none 0 0) []:=.inl ⟨rfl,rfl⟩
theorem OwnT.lt{w:Wd}{base:Nat}{v:Value}{l:Bs}(h:OwnT w base v l):∀ k,v.ownBlock=some k->base<=k/\k<w.heap.size:=by
 intro k j;rcases h with ⟨rfl,_⟩|⟨g,cap,x,D,rfl,hb,hg,_⟩
 ·simp[Value.ownBlock] at j
 ·simp[Value.ownBlock] at j;subst j;exact⟨hb,(Array.getElem?_eq_some_iff.1 hg).1⟩
theorem OwnT.below{w w':Wd}{base:Nat}{v:Value}{l:Bs}(h:OwnT w base v l)(hb:Bw w w'):OwnT w' base v l:=by
 rcases h with h|⟨g,cap,j,D,h1,I,x,J⟩
 ·exact .inl h
 ·exact .inr ⟨g,cap,j,D,h1,I,(hb.block g (Array.getElem?_eq_some_iff.1 x).1).trans x,J⟩
theorem OwnT.alloc{w:Wd}{base:Nat}{v:Value}{l:Bs}(h:OwnT w base v l)(o:Obj):OwnT (w.alloc o) base v l:=h.below (aT w o)
theorem OwnT.drewN{w:Wd}{base:Nat}{v:Value}{l:Bs}(h:OwnT w base v l)(n:Nat):OwnT (w.drewN n) base v l:=h
theorem OwnT.cell{w:Wd}{base g cap:Nat}{n:Nat}{l:Bs}(h:OwnT w base (.slice (some ⟨g,0,none⟩) n cap) l)(j:Nat)(I:j<l.length):w.cell? ⟨g,j,none⟩=some (.int .u8 (l[j].toNat:Int)):=by
 rcases h with ⟨h,_⟩|⟨R,D,x,J,h1,_,K,_,_,_,_,O⟩
 ·cases h
 ·injection h1 with e _ _
  injection e with e
  injection e with e _ _
  subst e;rw[cell_of_row w g j x _ J K];have:(x.toList.take l.length)[j]? = some (.int .u8 (l[j].toNat:Int)):=by rw[O];simp[Lib.byteCells,I]
  rw[List.getElem?_take,jP I] at this;simpa using this
theorem OwnT.conv{w:Wd}{base:Nat}{v:Value}{l:Bs}(h:OwnT w base v l):(convert 68 9 v).run prog w = .ok (.string (SBy l)) w:=by
 rcases id h with ⟨rfl,rfl⟩|⟨g,x,D,J,rfl,_⟩
 ·rw[run_convert_bytes_nil w 68 5 underlying68 underlying5 _ _ _ underlying9];rfl
 ·exact run_convert_bytes_back w 68 9 5 ⟨g,0,none⟩ x l underlying68 underlying5 underlying9 (λj I=>by
   have:=OwnT.cell h j I
   rw[show(⟨g,0,none⟩:Addr).add j=⟨g,j,none⟩ by rw[Addr.add_lit];simp]
   exact this)
theorem OwnT.made(w:Wd)(base:Nat)(l:Bs)(hb:base<=w.heap.size)(O:l.length<=maxLen):
  ∃ v w',(convert 9 68 (.string (SBy l))).run prog w = .ok v w'/\OwnT w' base v l/\Bw w w'/\(∀ k,v.ownBlock=some k->k=w.heap.size):=by
 have J:=run_bytes_of_string (P:=prog) w 9 68 5 (SBy l) underlying9 underlying68 underlying5;have j:=grownCap_ge w (SBy l).size 0 5;have D:=grownCap_le_maxLen w (SBy l).size 0 5 (by rw[dY];exact O);obtain⟨cap,x⟩:=je (grownCap w (SBy l).size 0 5);rw[<- x] at J j D;rw[dY] at J j;have I:(bytesRow (SBy l) cap).size=cap:=by
  unfold bytesRow;simp only[Array.size_append,Array.size_map,Array.size_replicate];rw[show(SBy l).data.size=l.length from dY l,dY];omega
 refine⟨_,_,J,.inr ⟨w.heap.size,cap,_,_,rfl,hb,heap_alloc_new w.drew _,.inr (by rw[I];exact ja _),j,D,I,?_⟩,(ji _ w).drew.alloc (ja _) _,λk K=>by simpa [Value.ownBlock] using K.symm⟩;unfold bytesRow;rw[Array.toList_append,List.take_append_of_le_length (by simp[SBy]),List.take_of_length_le (by simp[SBy])];simp[SBy,Lib.byteCells]
section
variable {P : Program}
end
theorem YT:∃ i,prog.info? 5=some i/\i.zero=some (.int .u8 0)/\i.size=1/\i.bytes=1:=
 info_parts (show(prog.info? 5).map (λi=>(i.zero,i.size,i.bytes))=some (some (.int .u8 0),1,1) by kernel_rfl)
section
variable {ops : Array Oper} {rest : List Oper} {o : Oper} {a : Act} {w : Wd} {Q : Exit -> Act -> Wd -> Prop}
end
end Go.Proofs.YtiaigidbcljblaaGreatDoor
