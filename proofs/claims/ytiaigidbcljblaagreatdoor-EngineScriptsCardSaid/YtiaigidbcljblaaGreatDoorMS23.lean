import Derived.Test.YtiaigidbcljblaaGreatDoorMS21
set_option linter.unusedSimpArgs false
set_option maxRecDepth 100000
set_option maxHeartbeats 40000000
namespace Go.Proofs.YtiaigidbcljblaaGreatDoor
open Go.Proofs.Tryz
open Go.RowKit
theorem YH(s:Bs)(k:Nat)(_:k<s.length)(h:k<(SBy s).size):(SBy s)[k]'h=s[k]:=by
 show(SBy s).data[k]=_;simp[SBy];rfl
theorem IP(s:Bs)(k:Nat)(j:k<s.length)(w:Wd):(Instr.index 9 (.string (SBy s)) (.int .i64 (k:Int))).run prog w = .ok (.int .u8 (s[k].toNat:Int)) w:=by
 rw[run_index_string w 9 (SBy s) .i64 (k:Int) underlying9,dif_pos (by rw[bU];omega)];simp only[Int.toNat_natCast];rw[YH s k j];rfl
theorem E1{S:ByteArray}(h:S≠⟨#[]⟩):S.toList.isEmpty=false:=by
 rw[Bool.eq_false_iff];intro e;rw[ByteArray.toList_eq,List.isEmpty_iff] at e;exact h (ByteArray.ext (Array.toList_inj.1 e))
def gK(s:Bs):Int×Bool:=match gJ s with
 | some n=>((n:Int),true)
 | none=>(0,false)
theorem fZ{s:Bs}(h:gJ s=none):gK s=(0,false):=by unfold gK;rw[h]
theorem sI{s:Bs}{n:Nat}(h:gJ s=some n):gK s=((n:Int),true):=by unfold gK;rw[h]
theorem q9(s:Bs):gJ s=if decide (1<=s.length) && (decide (s.length<=13) && ((s.head? != some 48 || s.length == 1) && s.all dK)) then some (gP s) else none:=rfl
theorem pM{s:Bs}{k:Nat}(j:k<s.length)(p:UInt8->Bool):(s.take (k+1)).all p=((s.take k).all p && p s[k]):=by
 rw[j6 j,List.all_append];simp
theorem AM{s:Bs}{k:Nat}(j:k<s.length):gP (s.take (k+1))=gP (s.take k)*10+(s[k].toNat-48):=by
 rw[j6 j,oZ]
theorem RK{k:Nat}(h:k<=13):10 ^ k<=10000000000000:=jm (Nat.pow_le_pow_right (by omega) h) (by decide)
theorem fL(s:Bs)(w:Wd)(hm:s.length<=9223372036854775807):
  Wc 95 #[.string (SBy s)] w λe w'=>e = .returned (.tuple #[.int .i64 (gK s).1,.bool (gK s).2])/\w'=w:=by
 have a1:=IP s;obtain⟨S,hS⟩:=je (SBy s);have c6:S.size=s.length:=by rw[hS,bU]
 rw[<- hS] at a1 ⊢;have O:=jz a1;clear a1 hS;rcases jb (decide ((s.length:Int)<1)) with t1|t1
 ·have HN:Hid (gK s=(0,false)):=jz (fZ (by rw[q9,jQ];simp at t1 ⊢;omega));go_enter func95,ntmps95
  go_wp2_with fail
  go_ret2
  exact⟨by rw[HN.out];rfl,rfl⟩
 rcases jb (decide ((13:Int)<s.length)) with t2|t2
 ·have HN:Hid (gK s=(0,false)):=jz (fZ (by rw[q9,jQ];simp at t2 ⊢;omega));go_enter func95,ntmps95
  go_wp2_with fail
  go_ret2
  exact⟨by rw[HN.out];rfl,rfl⟩
 have c2:1<=s.length:=by have:=of_decide_eq_false t1;omega
 have c3:s.length<=13:=by have:=of_decide_eq_false t2;omega
 have a7:∀ w,(Instr.index 9 (.string S) (.int .i64 0)).run prog w = .ok (.int .u8 ((s[0]'(by omega)).toNat:Int)) w:=λw=>O.out 0 (by omega) w
 obtain⟨b0,Z⟩:=je (s[0]);rw[<- Z] at a7;have a6:s.head? = some b0:=by rw[Z,List.head?_eq_getElem?,List.getElem?_eq_getElem]
 obtain⟨z0,a3⟩:=je ((b0.toNat:Int));rw[<- a3] at a7;have a4:=jz (show(b0=48) ↔ z0=48 by
  rw[a3]
  constructor
  ·rintro rfl;rfl
  ·intro h;exact UInt8.toNat_inj.1 (by have:(48:UInt8).toNat=48:=rfl;omega))
 have a5:=jz a6;clear Z a6 a3;have go:((z0 == 48) && decide ((1:Int)<s.length))=false->Wc 95 #[.string S] w λe w'=>e = .returned (.tuple #[.int .i64 (gK s).1,.bool (gK s).2])/\w'=w:=by
  intro x;have HL:Hid (gJ s=if s.all dK then some (gP s) else none):=jz (by
   rw[q9,a5.out]
   have h:(some b0 != some 48 || s.length == 1)=true:=by
    rw[Bool.or_eq_true,bne_iff_ne,beq_iff_eq]
    rw[Bool.and_eq_false_iff] at x
    rcases x with h|h
    ·left
     intro e
     have:=a4.out.1 (Option.some.inj e)
     rw[this] at h
     cases h
    ·right;have:=of_decide_eq_false h;omega
   rw[h]
   simp[c2,c3])
  have body:∀(Q:Prop),Q->Q:=λ_ h=>h
  rcases jb (z0 == 48) with t3|t3
  ·rw[t3] at x;simp only[Bool.true_and,Bool.false_and] at x;go_enter func95,ntmps95
   go_wp2_with fail
   go_loopw [4,26] (λn i wr=>∃ k:Nat,k<=s.length/\i = .int .i64 k/\n = .int .i64 (gP (s.take k):Nat)/\Hid ((s.take k).all dK=true)/\wr=w) (λ_ i _=>s.length-(intOf i).toNat)
   case atStart=>exact⟨0,j0 _,rfl,rfl,jz rfl,rfl⟩
   case round=>
    obtain⟨k,hk,rfl,rfl,U,hw⟩:=hrel;rw[hw];clear hw;rcases jo k s.length with j|a9
    ·have hi:=O.out k j;have I:=jz (AM j);have HA:=jz (pM j dK);have a2:=B7 k (s.take k) (by rw[jv];omega) U.out;have a8:=RK (show k<=13 by omega);obtain⟨b,hb⟩:=je (s[k]);rw[<- hb] at hi I HA;have HS:=jz (show dK b=true->s.all dK=true\/True from λ_=>.inr trivial);have HB:Hid (dK b=false->s.all dK=false):=jz (λh=>by
      rw[Bool.eq_false_iff]
      intro h2
      have:=List.all_eq_true.1 h2 s[k] (List.getElem_mem j)
      rw[<- hb,h] at this
      cases this)
     have a0:=UInt8.toNat_lt b;obtain⟨z,hz⟩:=je b.toNat;rw[<- hz] at hi I a0;have K:Hid (dK b=(decide (48<=z) && decide (z<=57))):=jz (by rw[hz];rfl);obtain⟨v,hv⟩:=je (gP (s.take k));rw[<- hv] at I a2 ⊢;clear hz hv hb HS;have b1:(0:Int)<=k:=by omega
     have b7:(k:Int)<s.length:=by omega
     rcases jb (decide ((z:Int)<48)) with J|J
     ·have D:Hid (gK s=(0,false)):=jz (fZ (by
       rw[HL.out,HB.out (by rw[K.out];have:=of_decide_eq_true J;simp;omega)];rfl))
      go_wp2_with fail
      go_ret2
      exact⟨by rw[D.out];rfl,rfl⟩
     ·rcases jb (decide ((57:Int)<z)) with t5|t5
      ·have D:Hid (gK s=(0,false)):=jz (fZ (by
        rw[HL.out,HB.out (by rw[K.out];have:=of_decide_eq_true t5;simp;omega)];rfl))
       go_wp2_with fail
       go_ret2
       exact⟨by rw[D.out];rfl,rfl⟩
      ·have c4:48<=z:=by have:=of_decide_eq_false J;omega
       have c5:z<=57:=by have:=of_decide_eq_false t5;omega
       have y1:IntKind.i64.wrap ((v:Int)*10)=(v:Int)*10:=IntWalk.i64_in _ (by omega);have y2:IntKind.u8.wrap ((z:Int)-48)=(z:Int)-48:=by unfold IntKind.wrap;simp[IntKind.signed,IntKind.bits];omega
       have y3:IntKind.i64.wrap ((z:Int)-48)=(z:Int)-48:=IntWalk.i64_in _ (by omega);have y4:IntKind.i64.wrap ((v:Int)*10+((z:Int)-48))=(v:Int)*10+((z:Int)-48):=IntWalk.i64_in _ (by omega);have HE:Hid ((v:Int)*10+((z:Int)-48)=((v*10+(z-48):Nat):Int)):=jz (by omega);have R:Hid ((s.take (k+1)).all dK=true):=jz (by rw[HA.out,U.out,K.out];simp;omega);go_wp2_with fail
       exact⟨⟨k+1,by omega,by go_num,by rw[I.out,<- HE.out],R,by trivial⟩,by simp[intOf];omega⟩
    ·obtain rfl:k=s.length:=by omega
     have V:=U.out;rw[List.take_length] at V;have D:Hid (gK s=(((gP s:Nat):Int),true)):=jz (sI (by rw[HL.out,jP V]));clear V;rw[List.take_length];go_wp2_with fail
     go_ret2
     exact⟨by rw[D.out];rfl,rfl⟩
  ·rw[t3] at x;simp only[Bool.true_and,Bool.false_and] at x;go_enter func95,ntmps95
   go_wp2_with fail
   go_loopw [4,26] (λn i wr=>∃ k:Nat,k<=s.length/\i = .int .i64 k/\n = .int .i64 (gP (s.take k):Nat)/\Hid ((s.take k).all dK=true)/\wr=w) (λ_ i _=>s.length-(intOf i).toNat)
   case atStart=>exact⟨0,j0 _,rfl,rfl,jz rfl,rfl⟩
   case round=>
    obtain⟨k,hk,rfl,rfl,U,hw⟩:=hrel;rw[hw];clear hw;rcases jo k s.length with j|a9
    ·have hi:=O.out k j;have I:=jz (AM j);have HA:=jz (pM j dK);have a2:=B7 k (s.take k) (by rw[jv];omega) U.out;have a8:=RK (show k<=13 by omega);obtain⟨b,hb⟩:=je (s[k]);rw[<- hb] at hi I HA;have HS:=jz (show dK b=true->s.all dK=true\/True from λ_=>.inr trivial);have HB:Hid (dK b=false->s.all dK=false):=jz (λh=>by
      rw[Bool.eq_false_iff]
      intro h2
      have:=List.all_eq_true.1 h2 s[k] (List.getElem_mem j)
      rw[<- hb,h] at this
      cases this)
     have a0:=UInt8.toNat_lt b;obtain⟨z,hz⟩:=je b.toNat;rw[<- hz] at hi I a0;have K:Hid (dK b=(decide (48<=z) && decide (z<=57))):=jz (by rw[hz];rfl);obtain⟨v,hv⟩:=je (gP (s.take k));rw[<- hv] at I a2 ⊢;clear hz hv hb HS;have b1:(0:Int)<=k:=by omega
     have b7:(k:Int)<s.length:=by omega
     rcases jb (decide ((z:Int)<48)) with J|J
     ·have D:Hid (gK s=(0,false)):=jz (fZ (by
       rw[HL.out,HB.out (by rw[K.out];have:=of_decide_eq_true J;simp;omega)];rfl))
      go_wp2_with fail
      go_ret2
      exact⟨by rw[D.out];rfl,rfl⟩
     ·rcases jb (decide ((57:Int)<z)) with t5|t5
      ·have D:Hid (gK s=(0,false)):=jz (fZ (by
        rw[HL.out,HB.out (by rw[K.out];have:=of_decide_eq_true t5;simp;omega)];rfl))
       go_wp2_with fail
       go_ret2
       exact⟨by rw[D.out];rfl,rfl⟩
      ·have c4:48<=z:=by have:=of_decide_eq_false J;omega
       have c5:z<=57:=by have:=of_decide_eq_false t5;omega
       have y1:IntKind.i64.wrap ((v:Int)*10)=(v:Int)*10:=IntWalk.i64_in _ (by omega);have y2:IntKind.u8.wrap ((z:Int)-48)=(z:Int)-48:=by unfold IntKind.wrap;simp[IntKind.signed,IntKind.bits];omega
       have y3:IntKind.i64.wrap ((z:Int)-48)=(z:Int)-48:=IntWalk.i64_in _ (by omega);have y4:IntKind.i64.wrap ((v:Int)*10+((z:Int)-48))=(v:Int)*10+((z:Int)-48):=IntWalk.i64_in _ (by omega);have HE:Hid ((v:Int)*10+((z:Int)-48)=((v*10+(z-48):Nat):Int)):=jz (by omega);have R:Hid ((s.take (k+1)).all dK=true):=jz (by rw[HA.out,U.out,K.out];simp;omega);go_wp2_with fail
       exact⟨⟨k+1,by omega,by go_num,by rw[I.out,<- HE.out],R,by trivial⟩,by simp[intOf];omega⟩
    ·obtain rfl:k=s.length:=by omega
     have V:=U.out;rw[List.take_length] at V;have D:Hid (gK s=(((gP s:Nat):Int),true)):=jz (sI (by rw[HL.out,jP V]));clear V;rw[List.take_length];go_wp2_with fail
     go_ret2
     exact⟨by rw[D.out];rfl,rfl⟩
 rcases jb ((z0 == 48) && decide ((1:Int)<s.length)) with x|x
 ·have HN:Hid (gK s=(0,false)):=jz (fZ (by
   rw[q9,a5.out,jQ]
   rw[Bool.and_eq_true,beq_iff_eq] at x
   have h1:=a4.out.2 x.1
   have h2:=of_decide_eq_true x.2
   rw[h1]
   simp
   omega))
  rw[Bool.and_eq_true] at x;have t3:=x.1;have J:=x.2;clear x go;go_enter func95,ntmps95
  go_wp2_with fail
  go_ret2
  exact⟨by rw[HN.out];rfl,rfl⟩
 ·exact go x
theorem cP(l:Bs):∀ u∈Lib.byteCells l,u.oneCell'=true:=by
 intro u j;simp only[Lib.byteCells,List.mem_map] at j;obtain⟨_,_,rfl⟩:=j;rfl
theorem bB(x y:Bs):Lib.byteCells (x++y)=Lib.byteCells x++Lib.byteCells y:=by simp[Lib.byteCells]
theorem aG(x:Bs):(Lib.byteCells x).length=x.length:=by simp[Lib.byteCells]
def OwnB(w:Wd)(base:Nat)(v:Value)(l:Bs):Prop:=w.ownsRow base 5 1 v l.length (Lib.byteCells l)
theorem OwnB.conv{w:Wd}{base:Nat}{v:Value}{l:Bs}(h:OwnB w base v l):(convert 68 9 v).run prog w = .ok (.string (SBy l)) w:=by
 rcases h.2 with ⟨rfl,J⟩|⟨g,x,I,rfl,_,O,_⟩
 ·have D:l=[]:=List.eq_nil_of_length_eq_zero J;rw[run_convert_bytes_nil w 68 5 underlying68 underlying5 _ _ _ underlying9,D];rfl
 ·exact run_convert_bytes_back w 68 9 5 ⟨g,0,none⟩ x l underlying68 underlying5 underlying9 (λj K=>by
   have:=World.ownsRow.cells h (g:=g) rfl j (.int .u8 (l[j].toNat:Int)) (by simp[Lib.byteCells,K])
   exact this)
def digitsS:ByteArray:=⟨#[48,49,50,51,52,53,54,55,56,57,97,98,99,100,101,102]⟩
theorem K6(k:Nat)(j:k<16)(kd:IntKind)(w:Wd):(Instr.index 9 (.string ⟨#[48,49,50,51,52,53,54,55,56,57,97,98,99,100,101,102]⟩) (.int kd (k:Int))).run prog w = .ok (.int .u8 ((nJ k).toNat:Int)) w:=by
 have hs:digitsS.size=16:=by decide
 have x:∀ k (h:k<digitsS.size),k<16->digitsS[k]=nJ k:=by decide
 have:=run_index_string (P:=prog) w 9 digitsS kd (k:Int) underlying9;rw[dif_pos (by rw[hs];omega)] at this;simp only[Int.toNat_natCast] at this;rw[x k (by rw[hs];omega) j] at this;exact this
theorem NH(l:Bs)(k:Nat)(h:k<l.length):iB (l.take (k+1))=iB (l.take k)++[nJ (l[k].toNat/16),nJ (l[k].toNat % 16)]:=by
 unfold iB;rw[j6 h,List.flatMap_append];simp
theorem oB(l:Bs):(iB l).length=2*l.length:=by
 induction l with
 | nil=>rfl
 | cons b l ih=>
  show(nJ _ :: nJ _ :: iB l).length=_;simp only[List.length_cons,ih];omega
def OwnT(w:Wd)(base:Nat)(v:Value)(l:Bs):Prop:=
 (v = .slice none 0 0/\l=[]) \/
 ∃ g cap cur fz,v = .slice (some ⟨g,0,none⟩) l.length cap/\base<=g/\w.heap[g]? = some (.cells cur 5 fz)/\(fz=(0,0)\/cap<=fz.1)/\l.length<=cap/\cap<=maxLen/\cur.size=cap/\cur.toList.take l.length=Lib.byteCells l
theorem OwnT.of{w:Wd}{base:Nat}{v:Value}{l:Bs}(h:OwnB w base v l):OwnT w base v l:=by
 rcases h.2 with ⟨h1,x⟩|⟨g,cap,j,h1,x,D,I,J,K,O⟩
 ·exact .inl ⟨h1,List.eq_nil_of_length_eq_zero x⟩
 ·exact .inr ⟨g,cap,j,(0,0),h1,x,D,.inl rfl,I,J,by simpa using K,by simpa using O⟩
theorem OwnT.nil(w:Wd)(base:Nat):OwnT w base (.slice none 0 0) []:=.inl ⟨rfl,rfl⟩
theorem OwnT.lt{w:Wd}{base:Nat}{v:Value}{l:Bs}(h:OwnT w base v l):∀ k,v.ownBlock=some k->base<=k/\k<w.heap.size:=by
 intro k j;rcases h with ⟨rfl,_⟩|⟨g,cap,x,D,rfl,hb,hg,_⟩
 ·simp[Value.ownBlock] at j
 ·simp[Value.ownBlock] at j;subst j;exact⟨hb,(Array.getElem?_eq_some_iff.1 hg).1⟩
theorem OwnT.below{w w':Wd}{base:Nat}{v:Value}{l:Bs}(h:OwnT w base v l)(hb:Bw w w'):OwnT w' base v l:=by
 rcases h with h|⟨g,cap,j,D,h1,I,x,J⟩
 ·exact .inl h
 ·exact .inr ⟨g,cap,j,D,h1,I,(hb.block g (Array.getElem?_eq_some_iff.1 x).1).trans x,J⟩
theorem OwnT.alloc{w:Wd}{base:Nat}{v:Value}{l:Bs}(h:OwnT w base v l)(o:Obj):OwnT (w.alloc o) base v l:=h.below (aT w o)
theorem OwnT.drewN{w:Wd}{base:Nat}{v:Value}{l:Bs}(h:OwnT w base v l)(n:Nat):OwnT (w.drewN n) base v l:=h
theorem OwnT.cell{w:Wd}{base g cap:Nat}{n:Nat}{l:Bs}(h:OwnT w base (.slice (some ⟨g,0,none⟩) n cap) l)(j:Nat)(I:j<l.length):w.cell? ⟨g,j,none⟩=some (.int .u8 (l[j].toNat:Int)):=by
 rcases h with ⟨h,_⟩|⟨R,D,x,J,h1,_,K,_,_,_,_,O⟩
 ·cases h
 ·injection h1 with e _ _
  injection e with e
  injection e with e _ _
  subst e;rw[cell_of_row w g j x _ J K];have:(x.toList.take l.length)[j]? = some (.int .u8 (l[j].toNat:Int)):=by rw[O];simp[Lib.byteCells,I]
  rw[List.getElem?_take,jP I] at this;simpa using this
theorem OwnT.conv{w:Wd}{base:Nat}{v:Value}{l:Bs}(h:OwnT w base v l):(convert 68 9 v).run prog w = .ok (.string (SBy l)) w:=by
 rcases id h with ⟨rfl,rfl⟩|⟨g,x,D,J,rfl,_⟩
 ·rw[run_convert_bytes_nil w 68 5 underlying68 underlying5 _ _ _ underlying9];rfl
 ·exact run_convert_bytes_back w 68 9 5 ⟨g,0,none⟩ x l underlying68 underlying5 underlying9 (λj I=>by
   have:=OwnT.cell h j I
   rw[show(⟨g,0,none⟩:Addr).add j=⟨g,j,none⟩ by rw[Addr.add_lit];simp]
   exact this)
theorem OwnT.made(w:Wd)(base:Nat)(l:Bs)(hb:base<=w.heap.size)(O:l.length<=maxLen):
  ∃ v w',(convert 9 68 (.string (SBy l))).run prog w = .ok v w'/\OwnT w' base v l/\Bw w w'/\(∀ k,v.ownBlock=some k->k=w.heap.size):=by
 have J:=run_bytes_of_string (P:=prog) w 9 68 5 (SBy l) underlying9 underlying68 underlying5;have j:=grownCap_ge w (SBy l).size 0 5;have D:=grownCap_le_maxLen w (SBy l).size 0 5 (by rw[bU];exact O);obtain⟨cap,x⟩:=je (grownCap w (SBy l).size 0 5);rw[<- x] at J j D;rw[bU] at J j;have I:(bytesRow (SBy l) cap).size=cap:=by
  unfold bytesRow;simp only[Array.size_append,Array.size_map,Array.size_replicate];rw[show(SBy l).data.size=l.length from bU l,bU];omega
 refine⟨_,_,J,.inr ⟨w.heap.size,cap,_,_,rfl,hb,heap_alloc_new w.drew _,.inr (by rw[I];exact ja _),j,D,I,?_⟩,(ji _ w).drew.alloc (ja _) _,λk K=>by simpa [Value.ownBlock] using K.symm⟩;unfold bytesRow;rw[Array.toList_append,List.take_append_of_le_length (by simp[SBy]),List.take_of_length_le (by simp[SBy])];simp[SBy,Lib.byteCells]
section
variable {P : Program}
theorem RL(g o:Nat)(t:TypeId)(D:Nat×Nat):∀(vs:Wv) (i:Nat) (j:Wa) (w:Wd),w.heap[g]? = some (.cells j t D)->(D=(0,0)\/o+i+vs.length<=D.1)->o+i+vs.length<=j.size->(∀ v∈vs,v.oneCell'=true) ->
  (storeCells ⟨g,o,none⟩ vs i).run P w = .ok () (w.setRow g (j.toList.take (o+i)++vs++j.toList.drop (o+i+vs.length)).toArray):=by
 intro vs;induction vs with
 | nil=>
  intro i j w hg _ _ _;have h:(j.toList.take (o+i)++[]++j.toList.drop (o+i+0)).toArray=j:=by simp
  rw[List.length_nil,h,setRow_self w g j t D hg];rfl
 | cons v rest ih=>
  intro i j w hg J R h1;rw[List.length_cons] at J R;have O:(store ((⟨g,o,none⟩:Addr).add i) v).run P w = .ok () (w.setRow g (j.setIfInBounds (o+i) v)):=by
   have K:w.frozen? ⟨g,o+i,none⟩=false:=by
    rcases J with rfl|h
    ·simp[World.frozen?,hg]
    ·obtain⟨lo,hi⟩:=D;have h:o+i+(rest.length+1)<=lo:=h;simp only[World.frozen?,hg,Bool.and_eq_false_iff,decide_eq_false_iff_not]
     left;omega
   have I:w.cell? ⟨g,o+i,none⟩=some j[o+i]:=by rw[cell_of_row w g (o+i) j t D hg,Array.getElem?_eq_getElem]
   rw[Addr.add_lit,run_store P w _ v _ (h1 v (by simp)),I];simp[K,setCell_eq_setRow w g (o+i) j t D v hg]
  have hi:=ih (i+1) (j.setIfInBounds (o+i) v) (w.setRow g (j.setIfInBounds (o+i) v)) (setRow_heap w g j _ t _ hg) (by rcases J with h|h;exact .inl h;right;omega) (by simp;omega) (λx hx=>h1 x (by simp[hx]));simp only[storeCells,Sem.run_bind,O,Result.andThen_ok,hi,setRow_setRow,List.length_cons];congr 3;have e:=list_seg_step j.toList (o+i) v rest (by simp;omega);simpa [Array.toList_setIfInBounds,Nat.add_assoc] using e
end
theorem RM:∃ i,prog.info? 5=some i/\i.zero=some (.int .u8 0)/\i.size=1/\i.bytes=1:=
 info_parts (show(prog.info? 5).map (λi=>(i.zero,i.size,i.bytes))=some (some (.int .u8 0),1,1) by kernel_rfl)
theorem K7{j:Wa}{l m:Bs}{cap:Nat}(D:j.size=cap)(x:l.length+m.length<=cap)(ht:j.toList.take l.length=Lib.byteCells l):
  (j.toList.take l.length++Lib.byteCells m++j.toList.drop (l.length+m.length)).toArray.size=cap/\(j.toList.take l.length++Lib.byteCells m++j.toList.drop (l.length+m.length)).toArray.toList.take (l++m).length=Lib.byteCells (l++m):=by
 constructor
 ·simp only[js,jj,jv,List.length_drop,jk,aG];omega
 ·rw[jt,ht,<- bB,List.take_append_of_le_length (by rw[aG];exact ja _),List.take_of_length_le (by rw[aG];exact ja _)]
theorem RN(ty:TypeId){w:Wd}{base:Nat}{v:Value}{l m:Bs}(R:OwnT w base v l)(x:l.length+m.length<=140737488355328)(D:base<=w.heap.size):
  ∃ v' w',(Builtin.append_ #[68,9] ty #[v,.string (SBy m)]).run prog w = .ok v' w'/\OwnT w' base v' (l++m)/\w.grownBy w' v.ownBlock:=by
 obtain⟨i,hi,hz,J,O⟩:=RM;have K:Lib.strCells (SBy m)=Lib.byteCells m:=rfl;have I:∀ k,k<=140737488355328->k<=maxLen:=λk h=>by unfold maxLen;omega
 rcases R with ⟨rfl,rfl⟩|⟨g,cap,cur,fz,rfl,hbg,hg,hfz,a2,hcm,hcs,htake⟩
 ·obtain⟨v',w',h1,h2,h3,_⟩:=Lib.run_append_own_string (P:=prog) w base 68 9 ty 5 i underlying68 underlying9 hi hz J O (.slice none 0 0) 0 [] (World.ownsRow_nil _ _ _ _) (SBy m) (by rw[bU];exact I _ (by simpa using x)) (by rw[bU];simpa using x) D;rw[K,bU,Nat.zero_add,List.nil_append] at h2;exact⟨v',w',h1,OwnT.of h2,h3⟩
 ·by_cases hroom:l.length+m.length<=cap
  ·have hf:=Lib.run_firstCells_string (P:=prog) w 1 (SBy m);rw[bU,K] at hf;have hst:=RL (P:=prog) g l.length 5 fz (Lib.byteCells m) 0 cur w hg (by rw[aG];rcases hfz with h|h;exact .inl h;right;omega) (by rw[aG];omega) (cP m);rw[aG] at hst;simp only[Nat.add_zero] at hst;obtain⟨p1,p2⟩:=K7 (m:=m) hcs hroom htake;refine⟨.slice (some ⟨g,0,none⟩) (l++m).length cap,w.setRow g (cur.toList.take l.length++Lib.byteCells m++cur.toList.drop (l.length+m.length)).toArray,?_,.inr ⟨g,cap,_,fz,rfl,hbg,setRow_heap w g cur _ _ _ hg,hfz,by rw[jj];omega,hcm,p1,p2⟩,⟨rfl,rfl,rfl,by simp,λk _ hk=>setRow_other w g k _ (λe=>hk (by simp[Value.ownBlock,e]))⟩⟩;have a0:(SBy m).size=m.length:=bU m;simp[Builtin.append_,run_underlying underlying68,run_underlying underlying9,sizeOf,typeInfo,hi,J,Builtin.lenOf,a0,hroom,Addr.add_lit];rw[hf];simp only[Result.andThen_ok];rw[hst];simp
  ·have hr:=Lib.run_append_grow_string (P:=prog) w 68 9 ty 5 i (.int .u8 0) underlying68 underlying9 hi hz ⟨g,0,none⟩ l.length cap (Lib.byteCells l) (by rw[J,aG];omega) (λj u U=>by
    rw[Addr.add_lit,cell_of_row w g _ cur _ fz hg]
    rw[<- htake,List.getElem?_take] at U
    split at U
    ·simpa using U
    ·cases U) (SBy m) (by rw[bU];omega) (by rw[bU];have:=I _ x;unfold maxLen at this;omega) (by rw[O,bU];exact growslice_fits (by omega) (by omega))
   rw[bU,K] at hr;have V:=grownCap_ge w (l.length+m.length) cap 5;have Z:=grownCap_le_maxLen w (l.length+m.length) cap 5 (I _ x);refine⟨_,_,hr,.inr ⟨w.heap.size,_,_,(0,0),by rw[jj],D,heap_alloc_new w.drew _,.inl rfl,by rw[jj];exact V,Z,?_,?_⟩,⟨rfl,rfl,rfl,by simp,λk hk _=>heap_alloc_old w.drew _ hk⟩⟩
   ·have a1:(Value.int IntKind.u8 0).cells.size=1:=rfl;simp only[Array.size_append,js,size_zeroCells,a1,aG];omega
   ·simp only[Array.toList_append,List.append_assoc];rw[<- List.append_assoc,<- bB,List.take_append_of_le_length (by rw[aG];exact ja _),List.take_of_length_le (by rw[aG];exact ja _)]
theorem E2(ty:TypeId){w:Wd}{base:Nat}{v:Value}{l m:Bs}(V:OwnT w base v l){b:Nat}{off c:Nat}(hx:∀ j (K:j<m.length),w.cell? ⟨b,off+j,none⟩=some (.int .u8 (m[j].toNat:Int)))(D:l.length+m.length<=140737488355328)(I:base<=w.heap.size):
  ∃ v' w',(Builtin.append_ #[68,68] ty #[v,.slice (some ⟨b,off,none⟩) m.length c]).run prog w = .ok v' w'/\OwnT w' base v' (l++m)/\w.grownBy w' v.ownBlock:=by
 obtain⟨i,hi,hz,J,R⟩:=RM;have x:∀ j u,(Lib.byteCells m)[j]? = some u->w.cell? ((⟨b,off,none⟩:Addr).add j)=some u:=λj u K=>by
  have U:j<m.length:=by have:=(List.getElem?_eq_some_iff.1 K).1;rwa [aG] at this
  have e:u = .int .u8 (m[j].toNat:Int):=by simpa [Lib.byteCells,U] using K.symm
  rw[Addr.add_lit,e];exact hx j U
 have O:∀ k,k<=140737488355328->k<=maxLen:=λk h=>by unfold maxLen;omega
 rcases V with ⟨rfl,rfl⟩|⟨g,cap,cur,fz,rfl,hbg,hg,hfz,a3,hcm,hcs,htake⟩
 ·have a2:(Value.int IntKind.u8 0).cells.size=1:=rfl;obtain⟨v',w',h2,h3,h4,_,h5⟩:=run_append_own_at (P:=prog) w base 68 ty 5 i (.int .u8 0) 1 1 underlying68 hi hz J R a2 (by decide) (.slice none 0 0) 0 [] (World.ownsRow_nil _ _ _ _) ⟨b,off,none⟩ m.length c (Lib.byteCells m) (by rw[aG];omega) x (cP m) (O _ (by simpa using D)) (by simpa using D) I;rw[Nat.zero_add,List.nil_append] at h3;exact⟨v',w',h2,OwnT.of h3,h4⟩
 ·by_cases hroom:l.length+m.length<=cap
  ·have hf:=run_firstCells_some (P:=prog) w 1 m.length ⟨b,off,none⟩ m.length c (Lib.byteCells m) (by rw[aG];omega) x;have hst:=RL (P:=prog) g l.length 5 fz (Lib.byteCells m) 0 cur w hg (by rw[aG];rcases hfz with h|h;exact .inl h;right;omega) (by rw[aG];omega) (cP m);rw[aG] at hst;simp only[Nat.add_zero] at hst;obtain⟨p1,p2⟩:=K7 (m:=m) hcs hroom htake;refine⟨.slice (some ⟨g,0,none⟩) (l++m).length cap,w.setRow g (cur.toList.take l.length++Lib.byteCells m++cur.toList.drop (l.length+m.length)).toArray,?_,.inr ⟨g,cap,_,fz,rfl,hbg,setRow_heap w g cur _ _ _ hg,hfz,by rw[jj];omega,hcm,p1,p2⟩,⟨rfl,rfl,rfl,by simp,λk _ hk=>setRow_other w g k _ (λe=>hk (by simp[Value.ownBlock,e]))⟩⟩;simp[Builtin.append_,run_underlying underlying68,sizeOf,typeInfo,hi,J,Builtin.lenOf,hroom,Addr.add_lit];rw[hf];simp only[Result.andThen_ok];rw[hst];simp
  ·have hr:=run_append_grow (P:=prog) w 68 ty 5 i (.int .u8 0) underlying68 hi hz ⟨g,0,none⟩ l.length cap (Lib.byteCells l) (by rw[J,aG];omega) (λj u K=>by
    rw[Addr.add_lit,cell_of_row w g _ cur _ fz hg]
    rw[<- htake,List.getElem?_take] at K
    split at K
    ·simpa using K
    ·cases K) ⟨b,off,none⟩ m.length c (Lib.byteCells m) (by rw[J,aG];omega) x (by omega) (by have:=O _ D;unfold maxLen at this;omega) (by rw[R];exact growslice_fits (by omega) (by omega))
   have Z:=grownCap_ge w (l.length+m.length) cap 5;have a0:=grownCap_le_maxLen w (l.length+m.length) cap 5 (O _ D);refine⟨_,_,hr,.inr ⟨w.heap.size,_,_,(0,0),by rw[jj],I,heap_alloc_new w.drew _,.inl rfl,by rw[jj];exact Z,a0,?_,?_⟩,⟨rfl,rfl,rfl,by simp,λk hk _=>heap_alloc_old w.drew _ hk⟩⟩
   ·have a1:(Value.int IntKind.u8 0).cells.size=1:=rfl;simp only[Array.size_append,js,size_zeroCells,a1,aG];omega
   ·simp only[Array.toList_append,List.append_assoc];rw[<- List.append_assoc,<- bB,List.take_append_of_le_length (by rw[aG];exact ja _),List.take_of_length_le (by rw[aG];exact ja _)]
section
variable {ops : Array Oper} {rest : List Oper} {o : Oper} {a : Act} {w : Wd} {Q : Exit -> Act -> Wd -> Prop}
theorem Z0(sl x:Operand)(U:o.op = .call { callee:=.builtin .append,args:=#[sl,x],argTypes:=#[68,9] })(Z:Region.wanted o (yielded ops a.tmps)=true)
  {base:Nat} {v:Value} {l m:Bs} (V:a.eval sl=v) (I:OwnT w base v l) (hx:a.eval x = .string (SBy m)) (D:l.length+m.length<=140737488355328) (j:base<=w.heap.size)
  (h:∀ v' w',OwnT w' base v' (l++m)->w.grownBy w' v.ownBlock->wpList prog ops Q rest (a.put o.dst v') w'):wpList prog ops Q (o :: rest) a w:=by
 refine wpList_step λK R=>?_
 rw[jP Z];obtain⟨v',w',hrun,J,O⟩:=RN o.type I D j;unfold Oper.wp execOp;simp only[U,resolve,invoke,builtin,Sem.run_bind,Sem.run_pure,Result.andThen_ok,List.map_toArray,List.map_cons,List.map_nil,V,hx,hrun];exact R _ _ (h v' w' J O)
theorem RO(sl x:Operand)(Z:o.op = .call { callee:=.builtin .append,args:=#[sl,x],argTypes:=#[68,68] })(hw:Region.wanted o (yielded ops a.tmps)=true)
  {base:Nat} {v:Value} {l m:Bs} {b off c:Nat} (hv:a.eval sl=v) (J:OwnT w base v l) (hx:a.eval x = .slice (some ⟨b,off,none⟩) m.length c) (V:∀ j (hj:j<m.length),w.cell? ⟨b,off+j,none⟩=some (.int .u8 (m[j].toNat:Int)))
  (I:l.length+m.length<=140737488355328) (D:base<=w.heap.size)
  (h:∀ v' w',OwnT w' base v' (l++m)->w.grownBy w' v.ownBlock->wpList prog ops Q rest (a.put o.dst v') w'):wpList prog ops Q (o :: rest) a w:=by
 refine wpList_step λK U=>?_
 rw[jP hw];obtain⟨v',w',hrun,O,R⟩:=E2 o.type J (c:=c) V I D;unfold Oper.wp execOp;simp only[Z,resolve,invoke,builtin,Sem.run_bind,Sem.run_pure,Result.andThen_ok,List.map_toArray,List.map_cons,List.map_nil,hv,hx,hrun];exact U _ _ (h v' w' O R)
end
theorem kD(w:Wd)(l:Bs)(t:TypeId)(j:Nat)(x:j<l.length):(w.alloc (.cells (Lib.byteCells l).toArray t)).cell? ⟨w.heap.size,0+j,none⟩=some (.int .u8 (l[j].toNat:Int)):=by
 rw[Nat.zero_add,World.cell?_alloc_new];simp[Lib.byteCells,x]
end Go.Proofs.YtiaigidbcljblaaGreatDoor
