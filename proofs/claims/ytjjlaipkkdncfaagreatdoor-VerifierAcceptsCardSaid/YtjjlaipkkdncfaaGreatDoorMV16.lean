import Derived.Test.YtjjlaipkkdncfaaGreatDoorMV11
import Derived.Test.YtjjlaipkkdncfaaGreatDoorMV10
set_option linter.unusedSimpArgs false
set_option maxRecDepth 100000
set_option maxHeartbeats 40000000
namespace Go.Proofs.YtjjlaipkkdncfaaGreatDoor
open Go.Proofs.Tryz
section
open Go.RowKit
attribute [local irreducible] wpQuiet wpAnyH
attribute [local go_sem] Oper.semAt_some
theorem Turn.blk{T I:bW}{W W':Wd}(h:Turn T W I W'){g:Nat}{t:TypeId}{cs:Wa}(D:Blk W g t cs)(hg:¬T g):Blk W' g t cs:=(h.block g D.lt hg).trans D
theorem Lies.blk{T:bW}{W W':Wd}(h:Lies T W W'){g:Nat}{t:TypeId}{cs:Wa}(D:Blk W g t cs)(hg:T g):Blk W' g t cs:=(h.block g D.lt hg).trans D
def rdA(d:DiskD)(a:Int):Ans:=if d.down then some (12,none) else if iR d a then none else some (15,some a)
theorem Q2(d:DiskD)(a:Int):rdE d a=bV (rdA d a):=by
 unfold rdE rdA;split;· rfl
 split <;> rfl
def eC(d:DiskD)(a:Int):Nat->List (Wl×Ans)
 | 0=>[]
 | n+1=>(rdS d a,rdA d a) :: if rdA d a=none then eC d (a+1) n else []
def Q3(x:Wl×Ans):Wa:=#[.agg (u8s x.1).toArray,bV x.2]
theorem s9{d:DiskD}(h:DOk d)(a:Int):Sec (rdS d a):=by
 unfold rdS;split
 ·exact gP
 ·split
  ·rename_i hb;unfold iR at hb;simp at hb;exact GP h a hb.1 hb.2
  ·exact gP
def XS(N gs gd:Nat):bW:=λk=>k<N\/k=gs\/k=gd
structure SIt(wN:Wd)(gs gd:Nat)(f z:Int)(g:Nat)(T:bW)(wr:Wd):Prop where
 bs:Blk wr gs 138 #[.int .i64 f,.int .i64 z]
 bd:Blk wr gd 43 #[.pointer (some ⟨g,0,none⟩)]
 bel:Bw wN wr
 nT:∀ k,T k->¬XS wN.heap.size gs gd k
theorem M5(f:Int)(z:Nat)(O:Wd)(m:DiskM)(d:DiskD)(gs gd:Nat)(w:Wd)(hK:DK O m d)(hb:Bw O w)(h1:Blk w gs 138 #[.int .i64 f,.int .i64 z])(h2:Blk w gd 43 #[.pointer (some ⟨m.g,0,none⟩)])
  (b9:O.heap.size<=gs/\O.heap.size<=gd) (hf:0<=f/\f<=100000) (hz:z<=100000):
  SeqZ Fence.wide 9 prog 202 #[.pointer (some ⟨gs,0,none⟩),.pointer (some ⟨gd,0,none⟩)] Q3 (XS O.heap.size gs gd) (λ_=>False) (eC d f z) w:=by
 intro ly J Jx T0 W hW e2 e3 hJ f0 e8 hY b2 h0 _;have a4:Hid (SIt O gs gd f z m.g T0 W):=jz ⟨h1.keep hW,h2.keep hW,aB hb hW,b2⟩;have e4:=h1.lt;have e5:=h2.lt;have d1:=jz (show gs≠ly/\gd≠ly/\O.heap.size<=ly by have:=hb.size;omega);have b0:=jz h0;have HK:=jz hK;have e6:=jz b9;have f1:0<=f:=hf.1;have f2:f<=100000:=hf.2;clear h1 h2 b2 h0 hK hb b9 hf;refine callsIn_of_wp func202 rfl trivial ?_ rfl;simp only[ntmps202,js,List.length_cons,List.length_nil,Nat.reduceAdd,Nat.reduceSub,Array.replicate_succ,Array.replicate_zero,List.push_toArray,List.append_toArray,List.nil_append,List.cons_append];refine wpIn_wide.2 ?_;have c1:=a4.bs.cell 1;simp only[jf,jh,jg] at c1;have f8:(0:Int)<=z:=by omega
 go_wp2_with fail
 clear c1;go_loopw [9] (λi wr=>∃(k:Nat) (I:List (Wl×Ans)) (T:bW),k<=z/\i = .int .i64 k/\Hid (J I T wr)/\Hid (SIt O gs gd f z m.g T wr)/\Hid (eC d f z=I++eC d (f+k) (z-k))) (λi _=>z-(intOf i).toNat)
 case atStart=>exact⟨0,[],T0,j0 _,rfl,b0,a4,jz (by simp)⟩
 case round=>
  clear b0 a4;obtain⟨k,I,T,hk,rfl,HJ,HI,HL⟩:=hrel;rcases jo k z with f6|f3
  ·have c0:=HI.bs.cell 0;have d0:=HI.bd.cell 0;simp only[jf,jg] at c0 d0;have HKr:Hid (DK wr m d):=jz (HK.keep HI.bel);have U:eC d (f+k) (z-k)=(rdS d (f+k),rdA d (f+k)) :: if rdA d (f+k)=none then eC d (f+k+1) (z-(k+1)) else []:=by
    rw[show z-k=(z-(k+1))+1 by omega];rfl
   have c9:=jz U;obtain⟨S,hS⟩:=je (rdS d (f+k));have a5:Hid (Sec S):=jz (by rw[hS];exact s9 HKr.ok _);have a6:Hid ((prog.info? 195).map (·.size)=some (u8s S).toArray.size/\z64.size=(u8s S).toArray.size/\(prog.info? 195).map (·.size)=some (u8s S).length):=jz ⟨by rw[js,aH a5.out];kernel_rfl,by rw[cT,js,aH a5.out],by rw[aH a5.out];kernel_rfl⟩;have d5:=jz (dL S);have f4:(0:Int)<=k:=by omega
   have f5:(k:Int)<z:=by omega
   obtain⟨x,D⟩:=je (rdA d (f+k));have d4:Hid (Wc 105 #[.pointer (some ⟨m.g,0,none⟩),.int .i64 (f+k)] wr (Rt wr (.tuple #[.agg (u8s S).toArray,bV x]))):=jz (by
    rw[hS,D,<- Q2]
    exact xH (f+k) wr m d HKr ⟨by omega,by omega⟩)
   have a3:I++[(S,x)] <+: eC d f z:=by rw[HL.out,U,hS,D];exact⟨if rdA d (f+k)=none then eC d (f+k+1) (z-(k+1)) else [],by simp⟩
   have a2:=jz a3;have c6:Hid (x≠none->eC d f z=I++[(S,x)]):=jz (λhn=>by rw[HL.out,U,hS,D,jQ (by rw[<- D];exact hn)]);have d2:Hid (x=none->eC d f z=(I++[(S,x)])++eC d (f+((k+1:Nat):Int)) (z-(k+1))):=jz (λhn=>by
    rw[HL.out,U,hS,D,jP (by rw[<- D];exact hn)]
    have:f+(k:Int)+1=f+((k+1:Nat):Int):=by omega
    rw[this];simp)
   clear U c9 hS D a3 HL HKr;go_upto_region 4 with (first
    | (go_at_call 105;refine d4.mono ?_;rintro e w1 ⟨rfl,b3⟩;have c4:=jz b3;clear b3)
    | (refine al 195 z64 rfl rfl dH ?_)
    | (refine bQ 195 (.tmp 5) (.tmp 19) rfl rfl rfl rfl a6.out.1 a6.out.2.1 d5 ?_;intro w2 b1 b7 c2;have c5:=jz b7;have d3:Hid (w2.rangeAt w1.heap.size 0 (u8s S)):=jz (by have:=Blk.range (show Blk w2 w1.heap.size 195 (u8s S).toArray from b1);rw[jt] at this;exact this);have e7:=jz c2;clear b1 b7 c2))
   have a0:Hid (Bw wr w2):=jz (aB c4 c5);have a7:J I T w2:=hJ _ _ _ _ HJ (Lies.of_below a0);obtain⟨fn,tmps,c3,body,hy,hR⟩:=hY _ _ T w2 a2 a7;have a9:=jz (HI.bs.keep a0);have a8:=jz (HI.bd.keep a0);have K:Hid (Bw O w2):=jz (aB HI.bel a0);dsimp only [Q3] at hy;refine(wpIn_wide (n:=9)).1 ?_;gi_wp2_with (refine iLd 195 _ rfl y6 rfl rfl d3 underlying195 rfl a6.out.2.2 ?_)
   refine hR.mono ?_;rintro e wD ⟨T',Z,⟨rfl,R⟩|⟨rfl,R⟩⟩
   ·have V:∀ k,(T k\/k=ly)->¬XS O.heap.size gs gd k:=λj h D=>h.elim (λh=>HI.nT j h D) (λe=>by
     have h1:=d1.out
     subst e
     rcases D with D|D|D
     ·omega
     ·exact h1.1 D.symm
     ·exact h1.2.1 D.symm)
    have e1:=K.size;have d7:=a9.lt;have e0:=a8.lt;have c7:Hid (SIt O gs gd f z m.g T' wD):=jz ⟨Z.blk a9 (λh=>V _ h (.inr (.inl rfl))),Z.blk a8 (λh=>V _ h (.inr (.inr rfl))),
     ⟨Z.os.trans K.os,Z.tape.trans K.tape,Z.output.trans K.output,jm K.size Z.size,λj hj=>(Z.block j (by omega) (λh=>V _ h (.inl hj))).trans (K.block j hj)⟩,
     λj hj D=>(Z.sub j hj).elim (λh=>V j h D) (λh=>by
      rcases D with D|D|D <;> omega)⟩
    have a1:=jz R;clear hR hy Z V e1 d7 e0 R a7 hY;cases x with
    | none=>
     have hv:bV none = .nilIface:=rfl;rw[hv];gi_wp2_with fail
     go_wp2_with fail
     exact⟨⟨k+1,_,T',by omega,by go_num,a1,c7,jz (d2 (by simp))⟩,by simp[intOf];omega⟩
    | some y=>
     obtain⟨t,u,hv⟩:=cH y;rw[hv];have f7:=dR t u;clear hv;gi_wp2_with fail
     go_wp2_with fail
     refine bodyPost_ret (results_none rfl _ _ _) rfl ?_;exact⟨⟨_,rfl⟩,T',.inl (by rw[c6.out (by simp)];exact a1)⟩
   ·have a1:=jz R;clear hR hy Z R a7 hY;gi_wp2_with fail
    go_wp2_with fail
    refine bodyPost_ret (results_none rfl _ _ _) rfl ?_;exact⟨⟨_,rfl⟩,T',.inr ⟨_,a2,a1⟩⟩
  ·obtain rfl:k=z:=by omega
   have HF:Hid (J (eC d f k) T wr):=jz (by rw[HL.out,Nat.sub_self];show J (I++[]) T wr;rw[List.append_nil];exact HJ);clear HL HJ;go_wp2_with fail
   go_end0
   exact⟨⟨_,rfl⟩,T,.inl HF⟩
end
section
open Go.RowKit
attribute [local irreducible] wpQuiet wpAnyH
theorem JW{P:Program}{n m l f:Nat}{tmps:Wa}{D body:Code}{w:Wd}{R:Ending->Wd->Prop}(h:RoundIn Fence.wide n P l f tmps D body w R):RoundIn Fence.wide m P l f tmps D body w R:=
 ⟨trivial,λc cs _=>h.2 c cs (room_wide _)⟩
theorem JX{P:Program}{n m l:Nat}{args:Wa}{w:Wd}{R:Ending->Wd->Prop}(h:YieldAt Fence.wide n P l args w R):YieldAt Fence.wide m P l args w R:=by
 obtain⟨fn,tmps,D,body,h1,I⟩:=h;exact⟨fn,tmps,D,body,h1,JW I⟩
theorem SeqZ.any{D:Prop}{P:Program}{α:Type}{n m g:Nat}{lb:Wa}{encs:α->Wa}{X Z:bW}{all:List α}{w:Wd}(h:LY D Fence.wide n P g lb encs X Z all w):LY D Fence.wide m P g lb encs X Z all w:=
 λl J Jx O W U V a3 a4 a5 a6 a7 a8 a9 I=>callsIn_wide.2 (callsIn_wide.1 (h l J Jx O W U V a3 a4 a5 a6 (λK x T R b1 b2=>JX (a7 K x T R b1 b2)) a8 a9 I))
abbrev b8:=Wl×Int
abbrev SSt:=Option Nat×List b8
def iY(st:SSt)(s:Wl):Option SSt:=match st.1 with
 | none=>(nS s).map (λg=>(some g,[]))
 | some g=>match oF s with|some (g',e)=>if g'=g then some (some g,st.2++[e]) else none|none=>none
def dF:SSt->List (Wl×Ans)->SSt×Ans
 | st,[]=>(st,none)
 | _,(_,some y) :: _=>((none,[]),some y)
 | st,(s,none) :: r=>match iY st s with|some st'=>dF st' r|none=>(st,none)
def V3(all:List (Wl×Ans))(pre:List (Wl×Ans))(st:SSt):Prop:=∀ rest,all=pre++rest->dF (none,[]) all=dF st rest
def stZ:Wa:=#[.bool false,.int .u32 0,.slice none 0 0]
theorem uO:∀ w,(zeroValue 203).run prog w = .ok (.agg stZ) w:=λw=>by unfold stZ;kernel_rfl
theorem T9:prog.built 203 []=some stZ:=by unfold stZ;kernel_rfl
def stC(st:SSt)(v:Value):Wa:=#[.bool st.1.isSome,.int .u32 (st.1.getD 0:Nat),v]
theorem Q4{s:Wl}(hb:Bys s){g:Nat}{e:b8}(h:oF s=some (g,e)):EntOk e:=by
 unfold oF at h;cases hp:prs s with
 | none=>rw[hp] at h;cases h
 | some x=>
  obtain⟨I,p⟩:=x;rw[hp] at h;simp only at h;split at h
  ·rename_i J;injection h with h
   injection h with _ h
   rw[<- h];refine⟨⟨by show(p.take 32).length=32;rw[jv];omega,λb D=>y5 hb hp b (j7 D)⟩,?_⟩;show aI ((beN (p.drop 32):Nat):Int);exact⟨by omega,by omega⟩
  ·cases h
theorem JY{st D:SSt}{s:Wl}(h:iY st s=some D):D.2.length<=st.2.length+1/\D.1≠none:=by
 unfold iY at h;cases h1:st.1 with
 | none=>
  rw[h1] at h;simp only[Option.map_eq_some_iff] at h;obtain⟨g,_,rfl⟩:=h;simp
 | some g=>
  rw[h1] at h;simp only at h;split at h
  ·split at h
   ·injection h with h;rw[<- h];simp
   ·cases h
  ·cases h
theorem xR{d:DiskD}(h:DOk d):∀(n:Nat) (a:Int),∀ x∈eC d a n,Sec x.1
 | 0,_,x,hx=>by cases hx
 | n+1,a,x,hx=>by
  unfold eC at hx;rcases List.mem_cons.1 hx with rfl|hx
  ·exact s9 h a
  ·split at hx
   ·exact xR h n _ x hx
   ·cases hx
theorem xS(d:DiskD):∀(n:Nat) (a:Int),(eC d a n).length<=n
 | 0,_=>ja _
 | n+1,a=>by
  unfold eC;rw[List.length_cons];split
  ·have:=xS d n (a+1);omega
  ·simp
theorem pE{w w':Wd}{base e s n:Nat}{v:Value}{I:Wv}(h:w.ownsRow base e s v n I)(hb:∀ b,v.ownBlock=some b->w'.heap[b]? = w.heap[b]?):w'.ownsRow base e s v n I:=by
 refine⟨h.1,?_⟩;rcases h.2 with J|⟨g,cap,D,rfl,hg,K,r⟩
 ·exact .inl J
 ·exact .inr ⟨g,cap,D,rfl,hg,by rw[hb g rfl];exact K,r⟩
structure SS(w:Wd)(N:Nat)(k:Nat)(st:SSt)(v:Value)(T:bW)(U:Wd):Prop where
 b4:Blk U (N+1) 203 stZ
 b5:Blk U (N+2) 46 #[.nilIface]
 b6:Blk U (N+3) 203 (stC st v)
 own:U.ownsRow (N+6) 26 33 v st.2.length (st.2.flatMap aO)
 ownT:∀ j,v.ownBlock=some j->T j
 bel:Below N w U
 tin:T (N+1)/\T (N+2)/\T (N+3)
 tsub:∀ j,T j->j=N+1\/j=N+2\/j=N+3\/N+6<=j
 tlt:∀ j,T j->j<U.heap.size
 size:N+6<=U.heap.size
 ok:∀ q∈st.2,EntOk q
 len:st.2.length<=k
 nil:st.1=none->st.2=[]/\v = .slice none 0 0
theorem SS.stab{w:Wd}{N k:Nat}{st:SSt}{v:Value}{T:bW}{A B:Wd}(h:SS w N k st v T A){M:Nat}(J:N+6<=M)(D:Lies (λk=>T k\/(k<M/\¬False)) A B):SS w N k st v T B where
 b4:=D.blk h.b4 (.inl h.tin.1)
 b5:=D.blk h.b5 (.inl h.tin.2.1)
 b6:=D.blk h.b6 (.inl h.tin.2.2)
 own:=pE h.own (λj I=>D.block j (h.own.lt j I).2 (.inl (h.ownT j I)))
 ownT:=h.ownT
 bel:=⟨D.os.trans h.bel.os,D.tape.trans h.bel.tape,D.output.trans h.bel.output,jm h.bel.size D.size,λj I=>(D.block j (by have:=h.size;omega) (.inr ⟨by omega,λh=>h⟩)).trans (h.bel.block j I)⟩
 tin:=h.tin
 tsub:=h.tsub
 tlt:=λj I=>jp (h.tlt j I) D.size
 size:=jm h.size D.size
 ok:=h.ok
 len:=h.len
 nil:=h.nil
theorem CG(g:Nat)(f z:Int)(w:Wd):
  Wc 156 #[.pointer (some ⟨g,0,none⟩),.agg #[.int .i64 f,.int .i64 z]] w λe w'=>e = .returned (.func (.func 202) #[] #[.pointer (some ⟨w.heap.size+1,0,none⟩),.pointer (some ⟨w.heap.size,0,none⟩)])/\w'=(w.alloc (.cells #[.pointer (some ⟨g,0,none⟩)] 43)).alloc (.cells #[.int .i64 f,.int .i64 z] 138):=by
 go_enter func156,ntmps156
 go_wp2_with fail
 go_ret;exact⟨rfl,rfl⟩
end
section
open Go.RowKit
attribute [local irreducible] wpQuiet wpAnyH
attribute [local go_sem] Oper.semAt_some
theorem aV(w:Wd)(o:Obj):Bw w (w.alloc o):=(ji _ w).alloc (ja _) _
theorem Turn.setCell{T D:bW}{A B:Wd}(h:Turn T A D B){b:Nat}(hb:T b)(i:Nat)(v:Value):Turn T A D (B.setCell ⟨b,i,none⟩ v):=
 ⟨h.os,h.tape,h.output,by have:=h.size;simpa using this,λk J I=>(Below.heap_setCell B ⟨b,i,none⟩ v k (λe=>I (by rw[e];exact hb))).trans (h.block k J I),h.sub⟩
theorem Turn.below{T D:bW}{A B C:Wd}(h:Turn T A D B)(hb:Bw B C):Turn T A D C:=
 ⟨hb.os.trans h.os,hb.tape.trans h.tape,hb.output.trans h.output,jm h.size hb.size,λk I J=>(hb.block k (jp I h.size)).trans (h.block k I J),h.sub⟩
theorem Turn.grown{T D:bW}{A B C:Wd}(h:Turn T A D B){row:Option Nat}(hg:B.grownBy C row)(K:∀ k,row=some k->T k):Turn T A D C:=
 ⟨hg.os.trans h.os,hg.tape.trans h.tape,hg.output.trans h.output,jm h.size hg.size,λk I J=>(hg.block k (jp I h.size) (λe=>J (K k e.symm))).trans (h.block k I J),h.sub⟩
theorem Turn.one{T:bW}{A B:Wd}{b:Nat}(hb:T b)(h:Below b A B)(I:∀ k,k≠b->B.heap[k]? = A.heap[k]?)(hs:A.heap.size<=B.heap.size):Turn T A T B:=
 ⟨h.os,h.tape,h.output,hs,λk _ D=>I k (λe=>D (by rw[e];exact hb)),λ_ h=>.inl h⟩
theorem SS.below{w:Wd}{N k:Nat}{st:SSt}{v:Value}{T:bW}{A B:Wd}(h:SS w N k st v T A)(hb:Bw A B):SS w N k st v T B:=h.stab (M:=N+6) (ja _) (Lies.of_below hb)
theorem SS.head{w:Wd}{N k:Nat}{v:Value}{T:bW}{U:Wd}(h:SS w N k (none,[]) v T U)(g:Nat):SS w N (k+1) (some g,[]) v T ((U.setCell ⟨N+3,0,none⟩ (.bool true)).setCell ⟨N+3,1,none⟩ (.int .u32 g)) where
 b4:=(h.b4.far (by simp) _).far (by simp) _
 b5:=(h.b5.far (by simp) _).far (by simp) _
 b6:=((h.b6.set_ 0 _).set_ 1 _)
 own:=by
  obtain⟨_,I⟩:=h.nil rfl;rw[I];exact World.ownsRow_nil _ _ _ _
 ownT:=h.ownT
 bel:=(h.bel.setCell (p:=⟨N+3,0,none⟩) (by simp) _).setCell (p:=⟨N+3,1,none⟩) (by simp) _
 tin:=h.tin
 tsub:=h.tsub
 tlt:=λj D=>by have:=h.tlt j D;simpa using this
 size:=by have:=h.size;simpa using this
 ok:=h.ok
 len:=by simp
 nil:=λe=>by cases e
theorem V4{F:Fence}{n:Nat}{P:Program}{ops:Array Oper}{rest:List Oper}{o:Oper}{a:Act}{w:Wd}{Q:Exit->Act->Wd->Prop}{t e s bytes:Nat}(T:SlT P t e s bytes)(x:Operand)(I:∀ f,F.fn f)
  (D:o.op = .buildSlice t 1 #[(0,x)]) (K:Region.wanted o (yielded ops a.tmps)=true) {cs:Wv} (O:a.eval x = .agg cs.toArray) (J:cs.length=s) (hs:s<=1000)
  (h:wpListIn F n P ops Q rest (a.put o.dst (.slice (some ⟨w.heap.size,0,none⟩) 1 1)) (w.alloc (.cells cs.toArray e))):wpListIn F n P ops Q (o :: rest) a w:=by
 refine QN (v:=.slice (some ⟨w.heap.size,0,none⟩) 1 1) (w':=w.alloc (.cells cs.toArray e)) I (fun ρ=>Oper.semAt_eq _ _ _ (λc=>by rw[D];exact λe=>by cases e)) K ?_ h;have hrun:=xI T cs J hs w;unfold execOp;simp only[D,Sem.run_bind,List.map_toArray,List.map_cons,List.map_nil,O,hrun,Result.andThen_ok];rfl
theorem V5:SlT prog 22 26 33 40:=SlT.mk' underlying22 (z:=.agg zE) (by unfold zE;kernel_rfl) rfl (by decide)
theorem M6(q:b8):∀ u∈aO q,u.oneCell'=true:=λu D=>by
 simp only[aO,cS,ju,List.mem_singleton] at D;rcases D with D|rfl
 ·exact cI _ u D
 ·rfl
theorem M7{w:Wd}{base e s n:Nat}{v:Value}{D:Wv}(h:w.ownsRow base e s v n D){g:Nat}(hg:g<base)(i:Nat)(u:Value):(w.setCell ⟨g,i,none⟩ u).ownsRow base e s v n D:=
 pE h λb hb=>Below.heap_setCell w ⟨g,i,none⟩ u b (by have:=(h.lt b hb).1;simp;omega)
theorem SS.push{w:Wd}{N k g:Nat}{se:List b8}{v v':Value}{T:bW}{O I:Wd}(h:SS w N k (some g,se) v T O){q:b8}(hq:EntOk q){M:Nat}
    (J:I.ownsRow (N+6) 26 33 v' (se.length+1) (se.flatMap aO++aO q)) (D:O.grownBy I v.ownBlock) (U:v'.ownBlock=v.ownBlock\/v'.ownBlock=some O.heap.size) (hM:N+6<=M/\M<=O.heap.size):
    SS w N (k+1) (some g,se++[q]) v' (λj=>T j\/(M<=j/\j<I.heap.size)) (I.setCell ⟨N+3,2,none⟩ v'):=by
  have a0:∀ j,j<N+6->some j≠v.ownBlock:=λj hj e=>by have:=(h.own.lt j e.symm).1;omega
  have hs:=D.size;have hN:=h.size;have V:∀ j,j<N+6->I.heap[j]? = O.heap[j]?:=λj hj=>D.block j (by omega) (a0 j hj)
  have K:∀ j,j<N+6->j≠N+3->(I.setCell ⟨N+3,2,none⟩ v').heap[j]? = O.heap[j]?:=λj hj Z=>(Below.heap_setCell I ⟨N+3,2,none⟩ v' j Z).trans (V j hj)
  refine { b4 := (K _ (by omega) (by omega)).trans h.b4, b5 := (K _ (by omega) (by omega)).trans h.b5, b6 := ?_, own := ?_, ownT := ?_, bel := ?_, tin := ⟨.inl h.tin.1, .inl h.tin.2.1, .inl h.tin.2.2⟩
           tsub := λj hj => hj.elim (h.tsub j) (λZ => .inr (.inr (.inr (by omega)))), tlt := λj hj => hj.elim (λh1 => by have := h.tlt j h1; simp; omega) (λZ => by simp; exact Z.2)
           size:=by simp;omega,ok:=?_,len:=by have:=h.len;simp at this ⊢;omega,nil:=λe=>by cases e }
  · exact Blk.set_ (show Blk I (N+3) _ (stC (some g,se) v) from(V _ (by omega)).trans h.b6) 2 v'
  · have:=M7 J (g:=N+3) (by omega) 2 v';rw[jj,List.flatMap_append];simpa using this
  · intro j hj;rcases U with e|e
    · exact .inl (h.ownT j (by rw[<- e];exact hj))
    · rw[e] at hj;injection hj with hj
      have:=(J.lt j (by rw[e,hj])).2;exact .inr ⟨by omega,this⟩
  · have R:=h.bel;refine⟨D.os.trans R.os,D.tape.trans R.tape,D.output.trans R.output,by have:=R.size;simp;omega,λj hj=>(K j (by omega) (by omega)).trans (R.block j hj)⟩
  · intro y hy;rcases List.mem_append.1 hy with hy|hy
    · exact h.ok y hy
    · rw[List.mem_singleton] at hy;rw[hy];exact hq
theorem Q5:stZ.all (·.oneCell')=true:=all_oneCell_toArray (cs:=[.bool false,.int .u32 0,.slice none 0 0]) λu D=>by
 simp only[jl,j8,or_false] at D;rcases D with rfl|rfl|rfl <;> rfl
structure SX(w:Wd)(N:Nat)(all:List (Wl×Ans))(T:bW)(U:Wd):Prop where
 ex:∃ y,dF (none,[]) all=((none,[]),some y)/\Blk U (N+2) 46 #[bV (some y)]
 b4:Blk U (N+1) 203 stZ
 bel:Below N w U
 tin:T (N+1)/\T (N+2)
theorem SX.stab{w:Wd}{N:Nat}{all:List (Wl×Ans)}{T:bW}{A B:Wd}(h:SX w N all T A){M:Nat}(K:N+6<=M)(D:Lies (λk=>T k\/(k<M/\¬False)) A B):SX w N all T B:=by
 obtain⟨y,h1,I⟩:=h.ex;exact⟨⟨y,h1,D.blk I (.inl h.tin.2)⟩,D.blk h.b4 (.inl h.tin.1),⟨D.os.trans h.bel.os,D.tape.trans h.bel.tape,D.output.trans h.bel.output,jm h.bel.size D.size,λj J=>(D.block j (by have:=h.b4.lt;omega) (.inr ⟨by omega,λh=>h⟩)).trans (h.bel.block j J)⟩,h.tin⟩
theorem JZ(f:Int)(z:Nat)(w:Wd)(m:DiskM)(d:DiskD)(h:DK w m d)(hf:0<=f/\f<=100000)(hz:z<=10000):
  Wc 107 #[.pointer (some ⟨m.g,0,none⟩),.agg #[.int .i64 f,.int .i64 z]] w λe w'=>Bw w w'/\∃ v,e = .returned (.tuple #[.agg (stC (dF (none,[]) (eC d f z)).1 v),bV (dF (none,[]) (eC d f z)).2])/\w'.ownsRow w.heap.size 26 33 v (dF (none,[]) (eC d f z)).1.2.length ((dF (none,[]) (eC d f z)).1.2.flatMap aO)/\(∀ q∈(dF (none,[]) (eC d f z)).1.2,EntOk q):=by
 have e4:=xR h.ok z f;have k5:=xS d z f;obtain⟨all,f6⟩:=je (eC d f z);rw[<- f6] at e4 k5 ⊢;have g2:=jz e4;clear e4;refine rQ func107 rfl ?_;simp only[ntmps107,js,List.length_cons,List.length_nil,Nat.reduceAdd,Nat.reduceSub,Array.replicate_succ,Array.replicate_zero,List.push_toArray,List.append_toArray,List.nil_append,List.cons_append];refine wpIn_wide.2 ?_;go_wp2_with (first
  | (refine al 203 stZ rfl rfl uO ?_)
  | (go_at_call 156;refine(CG m.g f z _).mono ?_;rintro e W ⟨rfl,hW⟩))
 simp only[World.size_alloc,Nat.add_assoc,Nat.reduceAdd] at hW ⊢;rw[<- hW];have f9:Bw w W:=by rw[hW];exact aB (aB (aB (aB (aB (aV _ _) (aV _ _)) (aV _ _)) (aV _ _)) (aV _ _)) (aV _ _)
 have n6:W.heap.size=w.heap.size+6:=by rw[hW];simp
 have k0:Blk W (w.heap.size+1) 203 stZ:=by rw[hW];exact((((Blk.newAt _ _ _ _ (by simp)).alloc _).alloc _).alloc _).alloc _
 have e3:Blk W (w.heap.size+2) 46 #[.nilIface]:=by rw[hW];exact(((Blk.newAt _ _ _ _ (by simp)).alloc _).alloc _).alloc _
 have k1:Blk W (w.heap.size+3) 203 stZ:=by rw[hW];exact((Blk.newAt _ _ _ _ (by simp)).alloc _).alloc _
 have k3:Blk W (w.heap.size+4) 43 #[.pointer (some ⟨m.g,0,none⟩)]:=by rw[hW];exact(Blk.newAt _ _ _ _ (by simp)).alloc _
 have k4:Blk W (w.heap.size+5) 138 #[.int .i64 f,.int .i64 z]:=by rw[hW];exact Blk.newAt _ _ _ _ (by simp)
 have e7:=jz (M5 f z w m d (w.heap.size+5) (w.heap.size+4) W h f9 k4 k3 ⟨by omega,by omega⟩ hf (by omega))
 have m5:Hid (SS w w.heap.size 0 (none,[]) (.slice none 0 0) (λk=>k=w.heap.size+1\/k=w.heap.size+2\/k=w.heap.size+3) W):=jz {
  b4:=k0,b5:=e3,b6:=k1
  own:=World.ownsRow_nil _ _ _ _
  ownT:=λk h=>by cases h
  bel:=f9
  tin:=⟨.inl rfl,.inr (.inl rfl),.inr (.inr rfl)⟩
  tsub:=λj hj=>by rcases hj with h|h|h <;> simp[h]
  tlt:=λj hj=>by rcases hj with h|h|h <;> omega
  size:=by omega
  ok:=λq hq=>by cases hq
  len:=ja _
  nil:=λ_=>⟨rfl,rfl⟩ }
 rw[<- f6] at e7;clear k0 e3 k1 k3 k4 f9 hW f6 h;refine(wpIn_wide (n:=9)).1 ?_;refine kY (w0:=W) (all:=all) (encs:=Q3) (Z:=λ_=>False) (X:=XS w.heap.size (w.heap.size+5) (w.heap.size+4)) rfl (λh=>by cases h) (gf:=202) (lb:=#[.pointer (some ⟨w.heap.size+5,0,none⟩),.pointer (some ⟨w.heap.size+4,0,none⟩)]) rfl trivial (enters_of func202 (by kernel_rfl) rfl)
  (SeqZ.any e7) (ji _ _) (λ_=>rfl) (λk h=>h.elim)
  (λR T U=>∃ st v,SS w w.heap.size R.length st v T U/\V3 all R st)
  (λc R T U=>(c = .ret/\SX w w.heap.size all T U)\/(c = .exit 0/\∃ st v,SS w w.heap.size R.length st v T U/\dF (none,[]) all=(st,none)))
  (λR x a' T U=>∃ st v b7,SS w w.heap.size R.length st v T U/\V3 all R st/\Blk U b7 195 (u8s x.1).toArray/\w.heap.size+6<=b7/\v.ownBlock≠some b7/\T b7/\a'={ tmps:=#[.pointer (some ⟨m.g,0,none⟩),.agg #[.int .i64 f,.int .i64 z],undef,.pointer (some ⟨w.heap.size,0,none⟩),.pointer (some ⟨w.heap.size+1,0,none⟩),.pointer (some ⟨w.heap.size+2,0,none⟩),.pointer (some ⟨w.heap.size+3,0,none⟩),.pointer (some ⟨b7,0,none⟩),bV x.2,undef,undef,undef,undef,undef,.pointer (some ⟨m.g,0,none⟩),.agg #[.int .i64 f,.int .i64 z],.func (.func 202) #[] #[.pointer (some ⟨w.heap.size+5,0,none⟩),.pointer (some ⟨w.heap.size+4,0,none⟩)],.agg (u8s x.1).toArray,bV x.2,undef,undef,undef,undef,undef,undef,undef,undef,undef,undef,undef,undef,undef,undef,undef,undef,undef,undef,undef,undef,undef,undef,undef,undef,undef,undef,undef,undef,undef,undef,undef,undef,undef,undef,undef,undef,undef,undef],defers:=[] })
  (λk=>k=w.heap.size+1\/k=w.heap.size+2\/k=w.heap.size+3)
  (λst T A' B h c6=>by
   obtain⟨s,v,h,hr⟩:=h
   exact⟨s,v,h.stab (M:=W.heap.size) (by omega) c6,hr⟩)
  (λc st T A' B h c6=>by
   rcases h with ⟨hc,h⟩|⟨hc,s,v,h,hr⟩
   ·exact .inl ⟨hc,h.stab (M:=W.heap.size) (by omega) c6⟩
   ·exact .inr ⟨hc,s,v,h.stab (M:=W.heap.size) (by omega) c6,hr⟩)
  (λR x a' _ T A' B h c6=>by
   obtain⟨s,v,b7,h,hr,h7,hl,hn,ht,ha⟩:=h
   exact⟨s,v,b7,h.stab (M:=W.heap.size) (by omega) c6,hr,c6.blk h7 (.inl ht),hl,hn,ht,ha⟩)
  (λst T A' h k hk=>by
   obtain⟨s,v,h,_⟩:=h
   exact h.tlt k hk)
  (λk hk hx=>by
   rcases hk with h|h|h <;> rcases hx with h'|h'|h' <;> omega)
  ⟨_,_,m5,λrest e=>by rw[e];rfl⟩
  ?assign ?body ?done ?stop
 case assign=>
  rintro ln R x T U m9 a2 n1 ⟨st,v,hI,b0⟩;have HI:=jz hI;have h6:=jz b0;have a8:Hid (Sec x.1):=jz (g2 x (a2.subset (by simp)));have h8:Hid ((prog.info? 195).map (·.size)=some (u8s x.1).toArray.size/\z64.size=(u8s x.1).toArray.size):=jz ⟨by rw[js,aH a8.out];kernel_rfl,by rw[cT,js,aH a8.out]⟩;clear hI a2 b0;simp only[Q3,List.zip_toArray,List.zip_cons_cons,List.zip_nil_left,List.zip_nil_right,List.foldl_toArray,List.foldl_toArray',List.foldl_cons,List.foldl_nil,List.setIfInBounds_toArray,List.set_cons_succ,List.set_cons_zero];gi_wp2_with (first
   | (refine iAl 195 _ rfl (cU _) rfl dH ?_)
   | (refine uC (cells:=(u8s x.1).toArray) (old:=z64) 195 (.tmp 7) (.tmp 17) rfl (cU _) rfl (by rfl) (by rfl) (by exact h8.out.1) (by exact h8.out.2) (by exact dL _) ?_;intro U2 f4))
  have K:Bw U U2:=by rw[f4];exact aV _ _
  have k2:Blk U2 U.heap.size 195 (u8s x.1).toArray:=by rw[f4];exact Blk.new _ _ _
  have h2:=HI.stab (M:=w.heap.size+6) (ja _) (Lies.of_below K);have p6:=k2.lt;rw[<- f4];refine⟨λk=>T k\/k=U.heap.size,(Turn.of_below K).grow (λk hk=>hk.imp id (λh=>by omega)),st,v,U.heap.size,⟨h2.b4,h2.b5,h2.b6,h2.own,λj hj=>.inl (h2.ownT j hj),h2.bel,⟨.inl h2.tin.1,.inl h2.tin.2.1,.inl h2.tin.2.2⟩,λj hj=>hj.elim (h2.tsub j) (λe=>by have:=HI.size;omega),λj hj=>hj.elim (h2.tlt j) (λe=>by omega),h2.size,h2.ok,h2.len,h2.nil⟩,h6,k2,HI.size,(λe=>by have:=(HI.own.lt _ e).2;omega),.inr rfl,by trivial⟩
 case body=>
  rintro ln R ⟨s,an⟩ a' T U m9 a2 n1 ⟨st,v,b7,hI,b0,h7,n7,n0,k7,rfl⟩;have a8:Hid (Sec s):=jz (g2 (s,an) (a2.subset (by simp)));obtain⟨rest,c9⟩:=a2;have a1:Hid (dF (none,[]) all=dF st ((s,an) :: rest)):=jz (b0 ((s,an) :: rest) (by rw[<- c9];simp));have c3:=jz c9;have HI:=jz hI;have h6:=jz b0;have h4:Hid (U.rangeAt b7 0 (u8s s)):=jz (by have:=h7.range;rw[jt] at this;exact this);have h9:Hid ((prog.info? 195).map (·.size)=some (u8s s).length):=jz (by rw[aH a8.out];kernel_rfl);have n4:=jz k7;clear c9 hI b0 h7 n0 k7;dsimp only;cases an with
  | some y=>
   have g8:Hid (dF (none,[]) all=((none,[]),some y)):=jz (by rw[a1.out];rfl);obtain⟨t,u,hv⟩:=cH y;have HV:=jz hv;rw[hv];have p7:=dR t u;clear hv;gi_wp2_with (refine iSt (cells:=stZ) 203 (.tmp 4) (.tmp 21) rfl (cU _) rfl (by rfl) (by rfl) HI.b4 (by kernel_rfl) rfl Q5 ?_;intro U2 hB hb ho d2;have m1:=jz hB;have m6:Hid (Turn T U T U2):=jz (Turn.one HI.tin.1 hb ho (by omega));have a3:Hid (Blk U2 (w.heap.size+2) 46 #[.nilIface]):=jz ((ho _ (by omega)).trans HI.b5);have c5:=a3.cell 0;have f5:=a3.frozen 0;simp only[jf,jg] at c5;have f1:Hid (Bw w U2):=jz (HI.bel.trans (hb.mono (by omega)));clear hB hb ho d2)
   refine⟨T,m6.setCell HI.tin.2.1 0 _,.inl ⟨rfl,⟨y,g8,?_⟩,m1.far (by simp) _,f1.setCell (p:=⟨w.heap.size+2,0,none⟩) (by simp) _,HI.tin.1,HI.tin.2.1⟩⟩;rw[HV.out];exact a3.set_ 0 _
  | none=>
   have hv:bV none = .nilIface:=rfl;rw[hv];obtain⟨so,se⟩:=st;cases so with
   | none=>
    obtain⟨k6,p9⟩:=HI.nil rfl;dsimp only at k6;subst k6;have c0:=HI.b6.cell 0;simp only[stC,jf,jg,Option.isSome_none] at c0;gi_wp2_with (refine iLd 195 _ rfl (cU _) rfl (by rfl) h4 underlying195 rfl h9 ?_)
    refine⟨trivial,(inR ln (oB s U a8.out.1 a8.out.2)).mono ?_⟩;rintro e U2 ⟨K,⟨hp,rfl⟩|⟨g,hp,rfl⟩⟩
    ·have HF:Hid (dF (none,[]) all=((none,[]),none)):=jz (by rw[a1.out];unfold dF iY;simp only[hp,Option.map_none]);have J:=jz (HI.below K);have a7:=jz K;clear hp K c0;gi_wp2_with fail
     exact⟨T,Turn.of_below a7,.inr ⟨by simp,_,v,⟨J.b4,J.b5,J.b6,J.own,J.ownT,J.bel,J.tin,J.tsub,J.tlt,J.size,J.ok,by simp,J.nil⟩,HF⟩⟩
    ·have HF:Hid (dF (none,[]) all=dF (some g,[]) rest):=jz (by rw[a1.out];conv=>lhs;unfold dF iY;simp only[hp,Option.map_some]);have J:=jz (HI.below K);have a7:=jz K;have d0:=J.b6.cell 0;have d1:=(J.b6.set_ 0 (.bool true)).cell 1;have e0:=J.b6.frozen 0;have e1:=(J.b6.set_ 0 (.bool true)).frozen 1;simp only[stC,jf,List.setIfInBounds_toArray,List.set_cons_zero,jg,jh,Option.isSome_none] at d0 d1;clear hp K c0;gi_wp2_with fail
     refine⟨T,((Turn.of_below a7).setCell HI.tin.2.2 0 _).setCell HI.tin.2.2 1 _,(some g,[]),v,?_,λa0 e=>?_⟩
     ·have:=J.head g;rw[jj,List.length_singleton];exact this
     ·have:a0=rest:=by rw[<- c3.out] at e;simpa using e.symm
      rw[this];exact HF.out
   | some g0=>
    have c0:=HI.b6.cell 0;simp only[stC,jf,jg,Option.isSome_some] at c0;gi_wp2_with (refine iLd 195 _ rfl (cU _) rfl (by rfl) h4 underlying195 rfl h9 ?_)
    refine⟨trivial,(inR ln (pA s U a8.out.1 a8.out.2)).mono ?_⟩;rintro e U2 ⟨K,⟨hp,rfl⟩|⟨g,q,hp,rfl⟩⟩
    ·have HF:Hid (dF (none,[]) all=((some g0,se),none)):=jz (by rw[a1.out];unfold dF iY;simp only[hp]);have J:=jz (HI.below K);have a7:=jz K;clear hp K c0;gi_wp2_with (first
      | (refine iAl 26 _ rfl (cU _) rfl rS ?_)
      | (refine uC (cells:=zE) 26 (.tmp 12) (.tmp 40) rfl (cU _) rfl (by rfl) (by rfl) (by rw[jV];kernel_rfl) rfl MJ ?_;intro U3 I;have a6:Bw U2 U3:=(by rw[I];exact aV _ _);have HI3:=jz (J.below a6);have d3:=jz a6;clear a6 I))
     exact⟨T,(Turn.of_below a7).below d3,.inr ⟨by simp,_,v,⟨HI3.b4,HI3.b5,HI3.b6,HI3.own,HI3.ownT,HI3.bel,HI3.tin,HI3.tsub,HI3.tlt,HI3.size,HI3.ok,by have:=HI3.len;simp at this ⊢;omega,HI3.nil⟩,HF⟩⟩
    ·have J:=jz (HI.below K);have a7:=jz K;have e5:=Q4 a8.out.2 hp;have HQO:=jz e5;have h3:=jz hp;have e2:Hid ((prog.info? 26).map (·.size)=some (aO q).length/\(prog.info? 26).map (·.size)=some (aO q).toArray.size/\zE.size=(aO q).toArray.size):=jz ⟨by rw[bC q e5];kernel_rfl,by rw[js,bC q e5];kernel_rfl,by rw[jV,js,bC q e5]⟩;clear hp K c0 e5;obtain⟨A,cap,rfl,_⟩:=bN HI.own;by_cases tg:g=g0
     ·subst tg;have HF:Hid (dF (none,[]) all=dF (some g,se++[q]) rest):=jz (by rw[a1.out];conv=>lhs;unfold dF iY;simp only[h3.out,if_true]);have n3:se.length<=10000:=by have:=HI.len;have h2:R.length<=all.length:=(by rw[<- c3.out];simp);dsimp only at this;omega
      gi_wp2_with (first
       | (refine iAl 26 _ rfl (cU _) rfl rS ?_)
       | (refine uC (cells:=(aO q).toArray) 26 (.tmp 12) (.tmp 40) rfl (cU _) rfl (by rfl) (by rfl) e2.out.2.1 e2.out.2.2 (gO _ _) ?_;intro U3 I;have a6:Bw U2 U3:=(by rw[I];exact aV _ _);have HI3:=jz (J.below a6);have d3:=jz a6;have m4:Hid (U3.rangeAt U2.heap.size 0 (aO q)):=jz (by rw[I];have:=(Blk.new U2 26 (aO q).toArray).range;rw[jt] at this;exact this);have c1:=HI3.b6.cell 1;have c2:=HI3.b6.cell 2;simp only[stC,jf,jg,jh,Option.getD_some] at c1 c2;have p8:=HI3.size;clear a6 I)
       | (refine iLd 26 (.tmp 12) rfl (cU _) rfl (by rfl) m4 underlying26 rfl e2.out.1 ?_)
       | (refine V4 V5 (.tmp 52) (cU _) rfl rfl (cs:=aO q) (by rfl) (bC q HQO) (by omega) ?_)
       | (refine WQ V5 (.tmp 51) (.tmp 53) (cU _) rfl rfl (by rfl) (World.ownsRow.alloc HI3.own _) (by rfl) (Sn.new U3 (aO q).toArray 26 33 1 (by rw[js,bC q HQO.out])) (λu hu=>M6 q u (by simpa using hu)) (by unfold maxLen;simp;omega) (by simp;omega) (by simp;omega) ?_;intro v' W7 O c4 e8;obtain⟨A7,n2,rfl,_⟩:=bN O;rw[jt] at O;have f8:=aV U3 (.cells (aO q).toArray 26);have d7:=jz (HI3.below f8);have g1:Blk W7 (w.heap.size+3) 203 (stC (some g,se) (.slice A se.length cap)):=((c4.block (w.heap.size+3) d7.b6.lt (λe=>by have:=(d7.own.lt _ e.symm).1;omega)).trans d7.b6);have c7:=g1.cell 2;have f7:=g1.frozen 2;simp only[stC,jf,jg,jh] at c7;have m3:=jz O;have h0:=jz c4;have m2:=jz e8;have g3:=jz f8;clear O c4 e8 f8 g1))
      have hP:=d7.push HQO (M:=U.heap.size) m3 h0 m2 ⟨HI.size,by have:=a7.size;have:=d3.size;have:=g3.size;omega⟩;have b3:∀ a0,all=R++[(s,none)]++a0->dF (none,[]) all=dF (some g,se++[q]) a0:=λa0 e=>by
       have:a0=rest:=by rw[<- c3.out] at e;simpa using e.symm
       rw[this];exact HF.out
      have e6:=hP;rw[show R.length+1=(R++[(s,(none:Ans))]).length by simp] at e6;refine⟨λk=>T k\/(U.heap.size<=k/\k<W7.heap.size),(((((Turn.of_below a7).below d3).below g3).grown h0 (λk e=>d7.ownT k e)).setCell HI.tin.2.2 2 _).grow (λk hk=>hk.imp id (λh=>h.1)),?_⟩
      first
       | exact⟨some g,se++[q],⟨_,e6⟩,b3⟩
       | exact⟨some g,se++[q],⟨_,hP⟩,b3⟩
       | exact⟨some g,se++[q],_,e6,b3⟩
       | exact⟨(some g,se++[q]),_,e6,b3⟩
       | exact⟨(some g,se++[q]),_,hP,b3⟩
     ·have HF:Hid (dF (none,[]) all=((some g0,se),none)):=jz (by rw[a1.out];unfold dF iY;simp only[h3.out,jQ tg]);have q3:¬((g:Int)=(g0:Int)):=λe=>tg (by omega)
      gi_wp2_with (first
       | (refine iAl 26 _ rfl (cU _) rfl rS ?_)
       | (refine uC (cells:=(aO q).toArray) 26 (.tmp 12) (.tmp 40) rfl (cU _) rfl (by rfl) (by rfl) e2.out.2.1 e2.out.2.2 (gO _ _) ?_;intro U3 I;have a6:Bw U2 U3:=(by rw[I];exact aV _ _);have HI3:=jz (J.below a6);have d3:=jz a6;have c1:=HI3.b6.cell 1;simp only[stC,jf,jg,jh,Option.getD_some] at c1;clear a6 I))
      exact⟨T,(Turn.of_below a7).below d3,.inr ⟨by simp,_,_,⟨HI3.b4,HI3.b5,HI3.b6,HI3.own,HI3.ownT,HI3.bel,HI3.tin,HI3.tsub,HI3.tlt,HI3.size,HI3.ok,by have:=HI3.len;simp at this ⊢;omega,HI3.nil⟩,HF⟩⟩
 case done=>
  rintro D T U hD ⟨st,v,h,b0⟩ d5 b2;have a4:Hid (dF (none,[]) all=(st,none)):=jz (by have:=b0 [] (by simp);rw[this];rfl);obtain⟨A,cap,rfl,_⟩:=bN h.own;have HH:=jz h;have f2:Hid (U.rangeAt (w.heap.size+3) 0 (stC st (.slice A st.2.length cap)).toList):=jz h.b6.range;have d4:=jz (And.intro d5 b2);have f3:Hid ((prog.info? 203).map (·.size)=some (stC st (.slice A st.2.length cap)).toList.length):=jz (by show _=some 3;kernel_rfl);have a5:Hid ((prog.info? 203).map (·.size)=some (stC st (.slice A st.2.length cap)).toList.toArray.size/\stZ.size=(stC st (.slice A st.2.length cap)).toList.toArray.size/\(stC st (.slice A st.2.length cap)).toList.toArray.all (·.oneCell')=true):=jz ⟨by show _=some 3;kernel_rfl,rfl,all_oneCell_toArray (λu hu=>by
   simp only[stC,jl,j8,or_false] at hu
   rcases hu with rfl|rfl|rfl <;> rfl)⟩
  clear h b0 d5 b2;gi_wp2_with fail
  go_wp2_with (first
   | (refine ld 203 (.tmp 6) rfl rfl rfl f2 underlying203 rfl f3 ?_)
   | (refine aN 203 (.tmp 4) (.tmp 56) rfl rfl rfl rfl HH.b4 a5.out.1 a5.out.2.1 a5.out.2.2 ?_;intro U2 hB hb ho d2;have HB:=jz hB;have HO:=jz ho;have HBl:=jz hb;have m8:=jz d2;have a3:Hid (Blk U2 (w.heap.size+2) 46 #[.nilIface]):=jz ((ho _ (by omega)).trans HH.b5);have c5:=a3.cell 0;have f5:=a3.frozen 0;simp only[jf,jg] at c5;clear hB hb ho d2))
  obtain⟨U3,I⟩:=je (U2.setCell ⟨w.heap.size+2,0,none⟩ .nilIface);rw[<- I];have a9:∀ k,k≠w.heap.size+1->k≠w.heap.size+2->U3.heap[k]? = U.heap[k]?:=λk h1 h2=>by
   rw[I];exact(Below.heap_setCell U2 ⟨w.heap.size+2,0,none⟩ _ k h2).trans (HO k h1)
  have hrun:=run_takeDeferred (P:=prog) (show U3.heap[D]? = some (.deferred (some [])) from(a9 D (by omega) (by omega)).trans d4.out.2);have V:Blk (U3.putObj D (.deferred none)) (w.heap.size+1) 203 (stC st (.slice A st.2.length cap)).toList.toArray:=(World.putObj_heap_other (by omega)).trans (by rw[I];exact HB.far (by simp) _);have b1:Blk (U3.putObj D (.deferred none)) (w.heap.size+2) 46 #[.nilIface]:=(World.putObj_heap_other (by omega)).trans (by rw[I];exact a3.set_ 0 _);have b9:Bw w (U3.putObj D (.deferred none)):=by
   have h5:=HH.bel;have hb:=HBl.out;refine⟨by rw[I];exact hb.os.trans h5.os,by rw[I];exact hb.tape.trans h5.tape,by rw[I];exact hb.output.trans h5.output,?_,λk hk=>(World.putObj_heap_other (by omega)).trans ((a9 k (by omega) (by omega)).trans (h5.block k hk))⟩;rw[I];have:=h5.size;have:=hb.size;simp;omega
  have O:(U3.putObj D (.deferred none)).ownsRow w.heap.size 26 33 (.slice A st.2.length cap) st.2.length (st.2.flatMap aO):=
   aT (pE HH.own (λk hk=>by
    have h1:=(HH.own.lt k hk).1
    exact(World.putObj_heap_other (λe=>d4.out.1 (by rw[<- e];exact HH.ownT k hk))).trans (a9 k (by omega) (by omega)))) (by omega)
  have q0:(U3.putObj D (.deferred none)).cell? ⟨w.heap.size+1,0,none⟩=some (.bool st.1.isSome):=V.cell 0;have q1:(U3.putObj D (.deferred none)).cell? ⟨w.heap.size+1,1,none⟩=some (.int .u32 (st.1.getD 0:Nat)):=V.cell 1;have q2:(U3.putObj D (.deferred none)).cell? ⟨w.heap.size+1,2,none⟩=some (.slice A st.2.length cap):=V.cell 2;have r5:=b1.cell 0;simp only[jf,jg] at r5;refine⟨by simp,.inl ⟨_,_,rfl,hrun,?_⟩⟩;refine⟨.tuple #[.agg (stC st (.slice A st.2.length cap)),.nilIface],?_,b9,_,by rw[a4.out];rfl,by rw[a4.out];exact O,by rw[a4.out];exact HH.ok⟩;clear V b1 b9 O hrun a9 I;simp[results,Tryz.results107,go_sem,q0,q1,q2,r5,stC]
 case stop=>
  rintro D c R T U hD a2 h d5 b2;have d4:=jz (And.intro d5 b2);rcases h with ⟨rfl,h⟩|⟨rfl,st,v,h,f0⟩
  ·obtain⟨y,hy,e3⟩:=h.ex;have hrun:=run_takeDeferred (P:=prog) b2;have V:Blk (U.putObj D (.deferred none)) (w.heap.size+1) 203 stZ:=(World.putObj_heap_other (by omega)).trans h.b4;have b1:Blk (U.putObj D (.deferred none)) (w.heap.size+2) 46 #[bV (some y)]:=(World.putObj_heap_other (by omega)).trans e3;have b9:Bw w (U.putObj D (.deferred none)):=by
    have h5:=h.bel;exact⟨h5.os,h5.tape,h5.output,by simpa using h5.size,λk hk=>(World.putObj_heap_other (by omega)).trans (h5.block k hk)⟩
   have q0:(U.putObj D (.deferred none)).cell? ⟨w.heap.size+1,0,none⟩=some (.bool false):=V.cell 0;have q1:(U.putObj D (.deferred none)).cell? ⟨w.heap.size+1,1,none⟩=some (.int .u32 0):=V.cell 1;have q2:(U.putObj D (.deferred none)).cell? ⟨w.heap.size+1,2,none⟩=some (.slice none 0 0):=V.cell 2;have r5:(U.putObj D (.deferred none)).cell? ⟨w.heap.size+2,0,none⟩=some (bV (some y)):=b1.cell 0;have f1:=jz b9;have a1:=jz hrun;have HY:=jz hy;clear h V b1 b9 b2 hrun a2 hy e3;gi_wp2_with fail
   refine⟨by simp,.inl ⟨_,_,rfl,a1,?_⟩⟩;refine⟨.tuple #[.agg stZ,bV (some y)],by simp[results,Tryz.results107,go_sem,q0,q1,q2,r5,stZ],f1,.slice none 0 0,by rw[HY.out];rfl,by rw[HY.out];exact World.ownsRow_nil _ _ _ _,by rw[HY.out];exact λq hq=>by cases hq⟩
  ·have a4:=jz f0;clear f0;obtain⟨A,cap,rfl,_⟩:=bN h.own;have HH:=jz h;have f2:Hid (U.rangeAt (w.heap.size+3) 0 (stC st (.slice A st.2.length cap)).toList):=jz h.b6.range;have d4:=jz (And.intro d5 b2);have f3:Hid ((prog.info? 203).map (·.size)=some (stC st (.slice A st.2.length cap)).toList.length):=jz (by show _=some 3;kernel_rfl);have a5:Hid ((prog.info? 203).map (·.size)=some (stC st (.slice A st.2.length cap)).toList.toArray.size/\stZ.size=(stC st (.slice A st.2.length cap)).toList.toArray.size/\(stC st (.slice A st.2.length cap)).toList.toArray.all (·.oneCell')=true):=jz ⟨by show _=some 3;kernel_rfl,rfl,all_oneCell_toArray (λu hu=>by
    simp only[stC,jl,j8,or_false] at hu
    rcases hu with rfl|rfl|rfl <;> rfl)⟩
   clear h d5 b2 a2;gi_wp2_with fail
   go_wp2_with (first
    | (refine ld 203 (.tmp 6) rfl rfl rfl f2 underlying203 rfl f3 ?_)
    | (refine aN 203 (.tmp 4) (.tmp 56) rfl rfl rfl rfl HH.b4 a5.out.1 a5.out.2.1 a5.out.2.2 ?_;intro U2 hB hb ho d2;have HB:=jz hB;have HO:=jz ho;have HBl:=jz hb;have m8:=jz d2;have a3:Hid (Blk U2 (w.heap.size+2) 46 #[.nilIface]):=jz ((ho _ (by omega)).trans HH.b5);have c5:=a3.cell 0;have f5:=a3.frozen 0;simp only[jf,jg] at c5;clear hB hb ho d2))
   obtain⟨U3,I⟩:=je (U2.setCell ⟨w.heap.size+2,0,none⟩ .nilIface);rw[<- I];have a9:∀ k,k≠w.heap.size+1->k≠w.heap.size+2->U3.heap[k]? = U.heap[k]?:=λk h1 h2=>by
    rw[I];exact(Below.heap_setCell U2 ⟨w.heap.size+2,0,none⟩ _ k h2).trans (HO k h1)
   have hrun:=run_takeDeferred (P:=prog) (show U3.heap[D]? = some (.deferred (some [])) from(a9 D (by omega) (by omega)).trans d4.out.2);have V:Blk (U3.putObj D (.deferred none)) (w.heap.size+1) 203 (stC st (.slice A st.2.length cap)).toList.toArray:=(World.putObj_heap_other (by omega)).trans (by rw[I];exact HB.far (by simp) _);have b1:Blk (U3.putObj D (.deferred none)) (w.heap.size+2) 46 #[.nilIface]:=(World.putObj_heap_other (by omega)).trans (by rw[I];exact a3.set_ 0 _);have b9:Bw w (U3.putObj D (.deferred none)):=by
    have h5:=HH.bel;have hb:=HBl.out;refine⟨by rw[I];exact hb.os.trans h5.os,by rw[I];exact hb.tape.trans h5.tape,by rw[I];exact hb.output.trans h5.output,?_,λk hk=>(World.putObj_heap_other (by omega)).trans ((a9 k (by omega) (by omega)).trans (h5.block k hk))⟩;rw[I];have:=h5.size;have:=hb.size;simp;omega
   have O:(U3.putObj D (.deferred none)).ownsRow w.heap.size 26 33 (.slice A st.2.length cap) st.2.length (st.2.flatMap aO):=
    aT (pE HH.own (λk hk=>by
     have h1:=(HH.own.lt k hk).1
     exact(World.putObj_heap_other (λe=>d4.out.1 (by rw[<- e];exact HH.ownT k hk))).trans (a9 k (by omega) (by omega)))) (by omega)
   have q0:(U3.putObj D (.deferred none)).cell? ⟨w.heap.size+1,0,none⟩=some (.bool st.1.isSome):=V.cell 0;have q1:(U3.putObj D (.deferred none)).cell? ⟨w.heap.size+1,1,none⟩=some (.int .u32 (st.1.getD 0:Nat)):=V.cell 1;have q2:(U3.putObj D (.deferred none)).cell? ⟨w.heap.size+1,2,none⟩=some (.slice A st.2.length cap):=V.cell 2;have r5:=b1.cell 0;simp only[jf,jg] at r5;refine⟨by simp,.inl ⟨_,_,rfl,hrun,?_⟩⟩;refine⟨.tuple #[.agg (stC st (.slice A st.2.length cap)),.nilIface],?_,b9,_,by rw[a4.out];rfl,by rw[a4.out];exact O,by rw[a4.out];exact HH.ok⟩;clear V b1 b9 O hrun a9 I;simp[results,Tryz.results107,go_sem,q0,q1,q2,r5,stC]
end
section
open Go.RowKit
attribute [local irreducible] wpQuiet wpAnyH
structure St(w0 w:Wd)(m:DiskM)(d:DiskD):Prop where
 dk:DK w m d
 ft:∀ k∈aZ m,w0.heap.size<=k
 bel:Bw w0 w
def Apart(m:DiskM)(g:Nat):Prop:=g ∉ aZ m/\∀ k,aI k->∀ v,m.cv k=some v->v.ownBlock≠some g
theorem Apart.next{w w':Wd}{m m':DiskM}{g:Nat}(h:Apart m g)(hg:g<w.heap.size)(ht:DT w m w' m'):Apart m' g:=
 ⟨λD=>by
  rcases ht.sub g D with D|D
  ·exact h.1 D
  ·omega,λk I v J e=>by
  rcases ht.cv k v J with h1|h1
  ·exact h.2 k I v h1 e
  ·have:=h1 g e;omega⟩
theorem DK.cv_lt{w:Wd}{m:DiskM}{d:DiskD}(h:DK w m d){k:Int}(J:aI k){v:Value}(D:m.cv k=some v):∀ b,v.ownBlock=some b->b<w.heap.size:=λb e=>by
 have:=h.crv k J;cases hc:d.cr k with
 | none=>rw[hc] at this;rw[this] at D;cases D
 | some cs=>
  rw[hc] at this;obtain⟨v2,h1,_,I⟩:=this;rw[D] at h1;injection h1 with h1
  subst h1;exact(I b e).2
theorem Apart.fresh{w:Wd}{m:DiskM}{d:DiskD}{g:Nat}(h:DK w m d)(hg:w.heap.size<=g):Apart m g:=
 ⟨h.notFoot hg,λk D v I e=>by have:=h.cv_lt D I g e;omega⟩
theorem DK.offK{w w':Wd}{m:DiskM}{d:DiskD}{b:Nat}(h:DK w m d)(I:∀ k,k≠b->w'.heap[k]? = w.heap[k]?)(hs:w.heap.size<=w'.heap.size)(ha:Apart m b):DK w' m d where
 blk:=(I m.g (λe=>ha.1 (e ▸ iB m))).trans h.blk
 sec:=aS h.sec λx J=>I x (λe=>ha.1 (e ▸ oY J))
 opn:=aS h.opn λx J=>I x (λe=>ha.1 (e ▸ sU J))
 last:=h.last.of_block (I _ (λe=>ha.1 (e ▸ nD m)))
 fl:=h.fl.of_block (I _ (λe=>ha.1 (e ▸ sR m)))
 cr:=h.cr.of_block (I _ (λe=>ha.1 (e ▸ sS m)))
 nd:=h.nd
 flv:=h.flv
 crv:=λk hi=>by
  have:=h.crv k hi;cases hc:d.cr k with
  | none=>rw[hc] at this;exact this
  | some cs=>
   rw[hc] at this;obtain⟨v,h1,R,O⟩:=this;refine⟨v,h1,?_,λb hb=>⟨(O b hb).1,jp (O b hb).2 hs⟩⟩;have K:=ha.2 k hi v h1;obtain⟨A,cap,rfl,Z,q2,J⟩:=R;refine⟨A,cap,rfl,Z,q2,λV=>?_⟩;obtain⟨g,o,rfl,D⟩:=J V;exact⟨g,o,rfl,λj u U=>(World.cell?_of_block (a:=⟨g,o+j,none⟩) (I g (λe=>K (by rw[e];rfl)))).trans (D j u U)⟩
 ok:=h.ok
structure LB(w:Wd)(m:DiskM)(g:Nat)(t:TypeId)(cs:Wa):Prop where
 blk:Blk w g t cs
 nf:g ∉ aZ m
structure LS(w:Wd)(m:DiskM)(s:Nat)(v:Value)(n:Nat)(xs:Wv):Prop where
 sn:Sn w s v n xs
 nf:∀ b,v.ownBlock=some b->b ∉ aZ m/\b<w.heap.size
theorem St.keep{w0 w w':Wd}{m:DiskM}{d:DiskD}(h:St w0 w m d)(hb:Bw w w'):St w0 w' m d:=⟨h.dk.keep hb,h.ft,aB h.bel hb⟩
theorem St.next{w0 w w':Wd}{m m':DiskM}{d d':DiskD}(h:St w0 w m d)(D:DK w' m' d')(ht:DT w m w' m'):St w0 w' m' d':=
 ⟨D,ht.le h.ft h.bel.size,h.bel.trans (ht.below h.ft h.bel.size)⟩
theorem St.drew{w0 w:Wd}{m:DiskM}{d:DiskD}(h:St w0 w m d)(n:Nat):St w0 (w.drewN n) m d:=h.keep (dG (ji _ _) n)
theorem LB.keep{w w':Wd}{m:DiskM}{g:Nat}{t:TypeId}{cs:Wa}(h:LB w m g t cs)(hb:Bw w w'):LB w' m g t cs:=⟨h.blk.keep hb,h.nf⟩
theorem LB.next{w w':Wd}{m m':DiskM}{g:Nat}{t:TypeId}{cs:Wa}(h:LB w m g t cs)(ht:DT w m w' m'):LB w' m' g t cs:=
 ⟨(ht.off h.blk.lt h.nf).trans h.blk,λD=>by
  rcases ht.sub g D with D|D
  ·exact h.nf D
  ·have:=h.blk.lt;omega⟩
theorem LB.old{w0 w:Wd}{m:DiskM}{d:DiskD}{g:Nat}{t:TypeId}{cs:Wa}(h:St w0 w m d)(hb:Blk w0 g t cs):LB w m g t cs:=
 ⟨hb.keep h.bel,λD=>by have:=h.ft g D;have:=hb.lt;omega⟩
theorem LB.fresh{w w':Wd}{m:DiskM}{d:DiskD}{g:Nat}{t:TypeId}{cs:Wa}(h:DK w m d)(hg:w.heap.size<=g)(hb:Blk w' g t cs):LB w' m g t cs:=⟨hb,h.notFoot hg⟩
theorem LS.keep{w w':Wd}{m:DiskM}{s n:Nat}{v:Value}{D:Wv}(h:LS w m s v n D)(hb:Bw w w'):LS w' m s v n D:=
 ⟨h.sn.below hb,λb e=>⟨(h.nf b e).1,jp (h.nf b e).2 hb.size⟩⟩
theorem LS.next{w w':Wd}{m m':DiskM}{s n:Nat}{v:Value}{I:Wv}(h:LS w m s v n I)(ht:DT w m w' m'):LS w' m' s v n I:=
 ⟨ht.fo.sn h.sn (λb e=>(h.nf b e).1),λb e=>⟨λD=>by
  rcases ht.sub b D with D|D
  ·exact(h.nf b e).1 D
  ·have:=(h.nf b e).2;omega,jp (h.nf b e).2 ht.fo.size⟩⟩
theorem LS.old{w0 w:Wd}{m:DiskM}{d:DiskD}{s n:Nat}{v:Value}{I:Wv}(h:St w0 w m d)(hs:Sn w0 s v n I)(D:∀ b,v.ownBlock=some b->b<w0.heap.size):LS w m s v n I:=
 ⟨hs.below h.bel,λb e=>⟨λJ=>by have:=h.ft b J;have:=D b e;omega,jp (D b e) h.bel.size⟩⟩
theorem LS.own{w w':Wd}{m:DiskM}{d:DiskD}{t s n:Nat}{v:Value}{I:Wv}(h:DK w m d)(D:w'.ownsRow w.heap.size t s v n I):LS w' m s v n I:=
 ⟨Sn.own D,λb e=>⟨h.notFoot (World.ownsRow.lt D b e).1,(World.ownsRow.lt D b e).2⟩⟩
theorem Sn.take{w:Wd}{s n cap:Nat}{A:Option Addr}{O:Wv}(h:Sn w s (.slice A n cap) n O)(k:Nat)(R:k<=n):Sn w s (.slice A k cap) k (O.take (k*s)):=by
 obtain⟨V,J,hv,K,Z,U⟩:=h;injection hv with hA _ hc
 subst hA hc;have:=Nat.mul_le_mul_right s R;refine⟨_,_,rfl,by omega,by rw[jv];omega,λhp=>?_⟩;obtain⟨b,off,rfl,D⟩:=U (by omega);refine⟨b,off,rfl,λj u I=>D j u ?_⟩;rw[List.getElem?_take] at I;split at I
 ·exact I
 ·cases I
end
end Go.Proofs.YtjjlaipkkdncfaaGreatDoor
