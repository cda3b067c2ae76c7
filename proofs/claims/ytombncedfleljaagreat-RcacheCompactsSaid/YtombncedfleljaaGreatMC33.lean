import Derived.Test.YtombncedfleljaaGreatMC32
import Derived.Test.YtombncedfleljaaGreatMC9
import Derived.Sort.Grow
set_option linter.unusedSimpArgs false
set_option maxRecDepth 100000
set_option maxHeartbeats 40000000
namespace Go.Proofs.YtombncedfleljaaGreat
section
set_option maxRecDepth 100000
theorem GT(l:List (List Int×Int)):mO l=l.foldl (fun s p=>(oL s.1 p.1 p.2,EU s.1 p.1 s.2)) (fun _=>none,0):=by unfold mO;rfl
theorem lZ:∀(L M:List (List Int×Int)),L.Pairwise (fun p q=>dE p q<0)→M.Pairwise (fun p q=>dE p q<0)→(∀ p,p∈L ↔ p∈M)→L=M
 | [],[],_,_,_=>rfl
 | [],q :: M,_,_,h=>by have:=(h q).2 (by simp);simp at this
 | p :: L,[],_,_,h=>by have:=(h p).1 (by simp);simp at this
 | p :: L,q :: M,hL,hM,h=>by
  rw[List.pairwise_cons] at hL hM;have hpq:p=q:=by
   have h1:=(h p).1 (by simp);have h2:=(h q).2 (by simp);rw[List.mem_cons] at h1 h2;rcases h1 with h1|h1
   ·exact h1
   ·rcases h2 with h2|h2
    ·exact h2.symm
    ·have a1:=hM.1 p h1;have a2:=hL.1 q h2;have:=dV p q;omega
  subst hpq;have hself:dE p p=0:=(fG p p).2 rfl;rw[lZ L M hL.2 hM.2 fun r=>?_];constructor
  ·intro hr;have h1:=(h r).1 (by simp[hr]);rw[List.mem_cons] at h1;rcases h1 with rfl|h1
   ·have:=hL.1 _ hr;omega
   ·exact h1
  ·intro hr;have h1:=(h r).2 (by simp[hr]);rw[List.mem_cons] at h1;rcases h1 with rfl|h1
   ·have:=hM.1 _ hr;omega
   ·exact h1
set_option maxRecDepth 100000
open Go.RowKit
theorem DM.dropped{w:World}{b n c:Nat}{f:List Int→Option Int}(h:DM w b n f c){d:List Int}(hd:DigOk d):∃ w' c',DM w' b n (cut f d) c'∧c'+(if (f d).isSome then 1 else 0)=c:=by
 obtain⟨D,hown,hf⟩:=h;obtain⟨w',_,h',_⟩:=hown.drop keyed Tryz.underlying114 (iK hd) 0;obtain⟨c',hf',e⟩:=hf.del (hown.tidy keyed) hd;exact⟨w',c',⟨_,h',hf'⟩,e⟩
theorem DM.count(b n:Nat):∀(K:List (List Int)) (w:World) (f:List Int→Option Int) (c:Nat),DM w b n f c→(∀ d∈K,DigOk d)→K.Nodup→(∀ d,DigOk d→((f d).isSome=true ↔ d∈K))→c=K.length
 | [],w,f,c,h,_,_,hf=>h.zero fun d hd=>by
  cases h1:f d with
  | none=>rfl
  | some t=>
   have:=(hf d hd).1 (by rw[h1];rfl);simp at this
 | d :: K,w,f,c,h,hok,hnd,hf=>by
  rw[List.nodup_cons] at hnd;have hd:=hok d (by simp);obtain⟨w',c',h',e⟩:=h.dropped hd;rw[if_pos ((hf d hd).2 (by simp))] at e;have:=DM.count b n K w' (cut f d) c' h' (fun x hx=>hok x (by simp[hx])) hnd.2 (fun x hx=>by
   unfold cut
   by_cases hxd:x=d
   ·subst hxd
    simp[hnd.1]
   ·rw[if_neg hxd,hf x hx]
    simp[hxd])
  simp only[List.length_cons];omega
structure Lists(f:List Int→Option Int)(L:List (List Int×Int)):Prop where
 mem:∀ p:List Int×Int,p∈L ↔ EntOk p∧f p.1=some p.2
 sorted:L.Pairwise (fun p q=>dE p q<0)
 exp:∀ d t,DigOk d→f d=some t→aK t
theorem sE{f:List Int→Option Int}{now:Int}{d:List Int}{t:Int}(h:kY f now d=some t):f d=some t:=by
 unfold kY at h;cases hf:f d with
 | none=>rw[hf] at h;cases h
 | some s=>
  rw[hf] at h;simp only at h;split at h
  ·cases h
  ·exact h
theorem Lists.nodup{f:List Int→Option Int}{L:List (List Int×Int)}(h:Lists f L):(L.map (·.1)).Nodup:=by
 rw[List.nodup_iff_pairwise_ne,List.pairwise_map];have hs:L.Pairwise (fun p q=>p≠q):=h.sorted.imp fun {p q} hpq e=>by
  subst e;have:=(fG p p).2 rfl;omega
 refine List.Pairwise.imp_of_mem (fun {p q} hp hq hne e=>?_) hs;have h1:=((h.mem p).1 hp).2;have h2:=((h.mem q).1 hq).2;rw[e,h2] at h1;injection h1 with h1
 exact hne (Prod.ext e h1.symm)
theorem Lists.count{f:List Int→Option Int}{L:List (List Int×Int)}(h:Lists f L){w:World}{b n c:Nat}(hm:DM w b n f c):c=L.length:=by
 have:=DM.count b n (L.map (·.1)) w f c hm (fun d hd=>by
  obtain⟨p,hp,rfl⟩:=List.mem_map.1 hd
  exact((h.mem p).1 hp).1.dig) h.nodup (fun d hd=>by
  constructor
  ·intro hs
   obtain⟨t,ht⟩:=Option.isSome_iff_exists.1 hs
   exact List.mem_map.2 ⟨(d,t),(h.mem _).2 ⟨⟨hd,hm.i64 hd ht⟩,ht⟩,rfl⟩
  ·intro hs
   obtain⟨p,hp,rfl⟩:=List.mem_map.1 hs
   rw[((h.mem p).1 hp).2]
   rfl)
 rw[this,List.length_map]
theorem Lists.eq{f:List Int→Option Int}{L M:List (List Int×Int)}(h:Lists f L)(h':Lists f M):L=M:=
 lZ L M h.sorted h'.sorted fun p=>by rw[h.mem,h'.mem]
def aE(l:List (List Int×Int))(now:Int):List (List Int×Int):=l.filter fun p=>decide (now≤p.2)
theorem Lists.live{f:List Int→Option Int}{L:List (List Int×Int)}(h:Lists f L)(now:Int):Lists (kY f now) (aE L now) where
 mem p:=by
  unfold aE;rw[List.mem_filter,h.mem p];unfold kY;simp only[decide_eq_true_eq];cases hf:f p.1 with
  | none=>simp
  | some t=>
   simp only[Option.some.injEq];constructor
   ·rintro⟨⟨h1,h2⟩,h3⟩;subst h2;exact⟨h1,by rw[if_neg (by omega)]⟩
   ·rintro⟨h1,h2⟩;by_cases ht:t<now
    ·rw[if_pos ht] at h2;cases h2
    ·rw[if_neg ht] at h2;injection h2 with h2
     exact⟨⟨h1,h2⟩,by omega⟩
 sorted:=h.sorted.sublist List.filter_sublist
 exp d t hd ht:=h.exp d t hd (sE ht)
theorem Lists.of_live{f:List Int→Option Int}{now:Int}{L:List (List Int×Int)}(h:∀ p:List Int×Int,p∈L ↔ EntOk p∧f p.1=some p.2∧now≤p.2)(hs:L.Pairwise (fun p q=>dE p q<0))(hi:∀ d t,DigOk d→f d=some t→aK t):Lists (kY f now) L where
 mem p:=by
  rw[h p];unfold kY;cases hf:f p.1 with
  | none=>simp
  | some t=>
   simp only[Option.some.injEq];constructor
   ·rintro⟨h1,h2,h3⟩;subst h2;exact⟨h1,by rw[if_neg (by omega)]⟩
   ·rintro⟨h1,h2⟩;by_cases ht:t<now
    ·rw[if_pos ht] at h2;cases h2
    ·rw[if_neg ht] at h2;injection h2 with h2
     exact⟨h1,h2,by omega⟩
 sorted:=hs
 exp d t hd ht:=hi d t hd (sE ht)
theorem Lists.congr{f g:List Int→Option Int}{L:List (List Int×Int)}(h:Lists f L)(e:∀ d,DigOk d→f d=g d):Lists g L where
 mem p:=by
  rw[h.mem p];constructor
  ·rintro⟨h1,h2⟩;exact⟨h1,by rw[← e _ h1.dig];exact h2⟩
  ·rintro⟨h1,h2⟩;exact⟨h1,by rw[e _ h1.dig];exact h2⟩
 sorted:=h.sorted
 exp d t hd ht:=h.exp d t hd (by rw[e d hd];exact ht)
end
section
set_option maxRecDepth 100000
end
section
open Go.RowKit
section
variable {P : Program} {w : World}
end
end
section
set_option maxRecDepth 100000
open Go.RowKit
theorem sF:SlT Tryz.prog 28 35 33 40:=SlT.mk' Tryz.underlying28 (z:=.agg (cY (List.replicate 32 0) 0).toArray) (by kernel_rfl) rfl (by decide)
theorem uS(p:List Int×Int):∀ u∈aC p,u.oneCell'=true:=fun u hu=>by
 have:=dK p.1 p.2;simp only[List.all_toArray,List.all_eq_true] at this;exact this u hu
theorem iC(l:List Value)(n:Nat)(hl:l.length=n)(Z:Array Value)(hz:Z.size=n):l.zipIdx.foldl (fun(cs:Array Value) (x:Value×Nat)=>cs.setIfInBounds x.2 x.1) Z=l.toArray:=by
 apply Array.ext_getElem?;intro i;rw[i8,hz,hl,show l.toArray[i]? = l[i]? by simp];by_cases h:i<n
 ·rw[if_pos (by omega),Nat.sub_zero]
 ·rw[if_neg (by omega),Array.getElem?_eq_none (by omega),List.getElem?_eq_none (by omega)]
theorem C8{p q:List Int}(hp:DigOk p)(hq:DigOk q)(w:World):(Op.equalIn 10000 33 (.agg (u8s p).toArray) (.agg (u8s q).toArray)).run Tryz.prog w = .ok (decide (p=q)) w:=by
 have hu:=Tryz.underlying33;have hc:Tryz.prog.cellsOf 33=32:=by kernel_rfl
 have form:∀ x:List Int,DigOk x→Value.formed Tryz.prog 33 (.agg (u8s x).toArray)=true:=fun x hx=>by
  unfold Value.formed;rw[hu];simp[hc,u8s,hx.len]
 have cells:∀ x:List Int,(Value.agg (u8s x).toArray).cells.toList=u8s x:=fun x=>by
  show(u8s x).toArray.toList=_;simp
 obtain⟨r,hr,hiff⟩:=run_equalIn_deep (P:=Tryz.prog) 9997 3 33 (by kernel_rfl) w 3 3 (.agg (u8s p).toArray) (.agg (u8s q).toArray) _ _ (form p hp) (form q hq) (by rw[cells];exact sC 1 hp) (by rw[cells];exact sC 1 hq);rw[hr];congr 1;by_cases h:p=q
 ·subst h;simpa using hiff.2 rfl
 ·have:¬r=true:=fun e=>h (by
   have:=y5 (p:=(p,0)) (q:=(q,0)) (by rw[hiff.1 e])
   exact congrArg Prod.fst this)
  simpa [h] using this
theorem nM(va:Value)(l:List (List Int×Int))(now:Int)(w:World)(hs:Sn w 33 va l.length (l.flatMap aC))(hok:∀ p∈l,EntOk p)(hl:l.length≤1000):
  Calls Tryz.prog 21 #[va,.int .i64 now] w fun e w'=>∃ v,e = .returned v∧w'.ownsRow w.heap.size 35 33 v (aE l now).length ((aE l now).flatMap aC)∧Below w.heap.size w w':=by
 obtain⟨A,cap,rfl,hcap,_,_⟩:=id hs;have HS:=jz hs;have HOK:=jz hok;clear hs hok;go_enter Tryz.func21,Tryz.ntmps21
 go_wp2_with fail
 go_loopw [5,6] (fun m i wr=>∃ k:Nat,k≤l.length∧i = .int .i64 k∧wr.ownsRow w.heap.size 35 33 m (aE (l.take k) now).length ((aE (l.take k) now).flatMap aC)∧Below w.heap.size w wr) (fun _ i _=>l.length-(intOf i).toNat)
 case atStart=>exact⟨0,Nat.zero_le _,rfl,World.ownsRow_nil _ _ _ _,Below.refl _ _⟩
 case round=>
  obtain⟨k,hk,rfl,hown,hb⟩:=hrel;by_cases hlt:k<l.length
  ·obtain⟨b,off,rfl,hr⟩:=gH aC EntOk 33 aH (HS.below hb) HOK.out k hlt;replace hr:wr.rangeAt b (off+k*33) (aC l[k]):=hr;have hpk:=HOK.out l[k] (List.getElem_mem hlt);have hlen:=aH l[k] hpk;have h32:(u8s l[k].1).length=32:=by simp[u8s,hpk.dig.len]
   have htc:wr.cell? ⟨b,off+k*33+32,none⟩=some (.int .i64 l[k].2):=hr 32 _ (by
    simp only[aC,cY]
    rw[List.getElem?_append_right (by omega),h32]
    rfl)
   have HR:=jz hr;clear hr;have h1:=uS l[k];have hbuild:=iC (aC l[k]) 33 hlen;have hsnoc:Hid (aE (l.take (k+1)) now=aE (l.take k) now++(if decide (now≤l[k].2)=true then [l[k]] else [])):=jz (by
    unfold aE
    rw[List.take_succ_eq_append_getElem hlt,List.filter_append]
    congr 1
    by_cases h:now≤l[k].2 <;> simp[h])
   obtain⟨L,hL⟩:=je (aE (l.take k) now);have hLl:L.length≤k:=by
    rw[hL];unfold aE;have:=List.length_filter_le (fun p:List Int×Int=>decide (now≤p.2)) (l.take k);rw[List.length_take] at this;omega
   rw[← hL] at hown hsnoc;clear hL;have hsz:=hb.size;have hi0:(0:Int)≤k:=by omega
   have hi1:(k:Int)<l.length:=by omega
   rcases jb (decide (now≤l[k].2)) with t1|t1
   ·rw[t1,if_pos rfl] at hsnoc;have hoA:=aX hown (mD (Below.refl _ wr) (.cells (aC l[k]).toArray 35));have hnA:=Sn.new wr (aC l[k]).toArray 35 33 1 (by simp[hlen]);go_wp2_with (first
     | (refine ld 35 _ rfl rfl rfl HR.out Tryz.underlying35 rfl (by rw[hlen];kernel_rfl) ?_)
     | (at_builtin;refine app sF (.tmp 20) (.tmp 25) rfl rfl (v:=u5) rfl hoA rfl hnA (fun u hu=>h1 u (by simpa using hu)) (by unfold maxLen;omega) (by omega) (by simp;omega) ?_;intro v4 w4 hown4 hg4 _))
    have hb4:Below w.heap.size w w4:=(hb.alloc hb.size (.cells (aC l[k]).toArray 35)).grown hg4 (by simp;omega) (fun g hg=>(hoA.lt g hg).1);refine⟨⟨k+1,by omega,by go_num,?_,hb4⟩,by simp[intOf];omega⟩;rw[hsnoc.out,List.length_append,List.flatMap_append];simpa using hown4
   ·rw[t1,if_neg (by simp)] at hsnoc;go_wp2_with fail
    refine⟨⟨k+1,by omega,by go_num,?_,hb⟩,by simp[intOf];omega⟩;rw[hsnoc.out,List.append_nil];exact hown
  ·obtain rfl:k=l.length:=by omega
   rw[List.take_length] at hown;go_wp2_with fail
   go_ret;exact⟨_,rfl,hown,hb⟩
end
section
set_option maxRecDepth 100000
def cO(e:List Int×Int)(s:List (List Int×Int)×Bool)(q:List Int×Int):List (List Int×Int)×Bool:=
 let s':=if !s.2 && decide (dE e q<0) then (s.1++[e],true) else s
 (if decide (q.1=e.1) then s'.1 else s'.1++[q],s'.2)
def fC(e q:List Int×Int):Bool:=decide (q.1=e.1) && decide (e.2≤q.2)
def j9(L:List (List Int×Int))(e:List Int×Int):List (List Int×Int)×Bool:=L.foldl (cO e) ([],false)
def aM(L:List (List Int×Int))(e:List Int×Int):List (List Int×Int)×Bool:=
 if L.any (fC e) then (L,false) else (if (j9 L e).2 then (j9 L e).1 else (j9 L e).1++[e],true)
theorem EV(L:List (List Int×Int))(e:List Int×Int)(k:Nat)(h:k<L.length):j9 (L.take (k+1)) e=cO e (j9 (L.take k) e) L[k]:=by
 unfold j9;rw[List.take_succ_eq_append_getElem h,List.foldl_append];rfl
theorem sG(L:List (List Int×Int))(e:List Int×Int):(j9 L e).1.length≤L.length+1∧((j9 L e).2=false→(j9 L e).1.length≤L.length):=by
 unfold j9;have key:∀(L:List (List Int×Int)) (s:List (List Int×Int)×Bool) (n:Nat),s.1.length≤n+1→(s.2=false→s.1.length≤n)→(L.foldl (cO e) s).1.length≤n+L.length+1∧((L.foldl (cO e) s).2=false→(L.foldl (cO e) s).1.length≤n+L.length):=by
  intro L;induction L with
  | nil=>intro s n h h';exact⟨by simpa using h,by simpa using h'⟩
  | cons q L ih=>
   intro s n h h';rw[List.foldl_cons];have:=ih (cO e s q) (n+1) (by
    obtain⟨o,p⟩:=s
    unfold cO
    cases p <;> (simp only[Bool.not_true,Bool.not_false,Bool.false_and,Bool.true_and] at *;repeat' split) <;> simp at * <;> omega) (by
    obtain⟨o,p⟩:=s
    unfold cO
    cases p <;> (simp only[Bool.not_true,Bool.not_false,Bool.false_and,Bool.true_and] at *;repeat' split) <;> simp at * <;> omega)
   simp only[List.length_cons];exact⟨by omega,fun hf=>by have:=this.2 hf;omega⟩
 have:=key L ([],false) 0 (by simp) (by simp);simpa using this
theorem kD(L:List (List Int×Int))(e:List Int×Int):(aM L e).1.length≤L.length+1:=by
 have:=sG L e;unfold aM;split
 ·simp
 ·split
  ·exact this.1
  ·rename_i h;have:=this.2 (by simpa using h);simp;omega
theorem tP{p q r:List Int×Int}(h:dE p q<0)(h':dE q r<0):dE p r<0:=by
 have h3:=j8 p q r (by omega) (by omega);have hne:dE p r≠0:=fun e=>by
  have e':=(fG _ _).1 e;subst e';have:=dV p q;omega
 omega
theorem xG(e:List Int×Int):∀(rest out:List (List Int×Int)) (placed:Bool),rest.Pairwise (fun p q=>dE p q<0)→out.Pairwise (fun p q=>dE p q<0)→(∀ x∈out,∀ y∈rest,dE x y<0)→(placed=false→∀ x∈out,dE x e<0) →
  (∀ q∈rest,q.1=e.1→q.2<e.2)→(placed=true→∀ q∈rest,dE e q<0) →
  let s:=rest.foldl (cO e) (out,placed)
  let r:=if s.2 then s.1 else s.1++[e]
  r.Pairwise (fun p q=>dE p q<0)∧∀ x,x∈r ↔ x∈out∨(placed=false∧x=e)∨(x∈rest∧x.1≠e.1)
 | [],out,placed,_,ho,_,hp,_,_=>by
  cases placed with
  | true=>simpa using ho
  | false=>
   simp only[List.foldl_nil,Bool.false_eq_true,if_false];refine⟨List.pairwise_append.2 ⟨ho,by simp,fun x hx y hy=>?_⟩,fun x=>by simp⟩;obtain rfl:y=e:=by simpa using hy
   exact hp rfl x hx
 | q :: rest,out,placed,hr,ho,hor,hp,hb,hpl=>by
  rw[List.foldl_cons];rw[List.pairwise_cons] at hr;have hqd:q.1=e.1→dE q e<0:=fun hd=>by
   have:=hb q (by simp) hd;unfold dE jF;simp[this]
  -- the state behind q
  by_cases hplace:placed=false∧dE e q<0
  ·obtain⟨rfl,hlt⟩:=hplace;have hne:¬q.1=e.1:=fun hd=>by
    have h1:=hqd hd;have:=dV q e;omega
   have hst:cO e (out,false) q=(out++[e]++[q],true):=by
    unfold cO;simp[hlt,hne]
   rw[hst];have hall:∀ y∈rest,dE e y<0:=fun y hy=>tP hlt (hr.1 y hy)
   have:=xG e rest (out++[e]++[q]) true hr.2 (by
     refine List.pairwise_append.2 ⟨List.pairwise_append.2 ⟨ho,by simp,fun x hx y hy=>?_⟩,by simp,fun x hx y hy=>?_⟩
     ·obtain rfl:y=e:=by simpa using hy
      exact hp rfl x hx
     ·obtain rfl:y=q:=by simpa using hy
      rcases List.mem_append.1 hx with hx|hx
      ·exact hor x hx y (by simp)
      ·obtain rfl:x=e:=by simpa using hx
       exact hlt) (fun x hx y hy=>by
     rcases List.mem_append.1 hx with hx|hx
     ·rcases List.mem_append.1 hx with hx|hx
      ·exact hor x hx y (by simp[hy])
      ·obtain rfl:x=e:=by simpa using hx
       exact hall y hy
     ·obtain rfl:x=q:=by simpa using hx
      exact hr.1 y hy) (fun h=>by simp at h) (fun x hx=>hb x (by simp[hx])) (fun _=>hall)
   refine⟨this.1,fun x=>(this.2 x).trans ?_⟩;simp only[List.mem_append,List.mem_cons,List.not_mem_nil,or_false,Bool.true_eq_false,false_and,false_or,true_and];constructor
   ·rintro(((h|h)|h)|⟨h,h'⟩)
    ·exact .inl h
    ·exact .inr (.inl h)
    ·subst h;exact .inr (.inr ⟨.inl rfl,hne⟩)
    ·exact .inr (.inr ⟨.inr h,h'⟩)
   ·rintro(h|h|⟨h|h,h'⟩)
    ·exact .inl (.inl (.inl h))
    ·exact .inl (.inl (.inr h))
    ·exact .inl (.inr h)
    ·exact .inr ⟨h,h'⟩
  ·have hnp:((!placed) && decide (dE e q<0))=false:=by
    cases placed <;> simp at hplace ⊢
    exact hplace
   have hqe:placed=false→q.1≠e.1→dE q e<0:=fun h1 h2=>by
    have h3:¬dE e q<0:=fun h=>hplace ⟨h1,h⟩
    have h4:=dV q e;have h5:dE q e≠0:=fun h=>h2 (by rw[(fG q e).1 h])
    omega
   by_cases hd:q.1=e.1
   ·have hst:cO e (out,placed) q=(out,placed):=by
     unfold cO;simp[hnp,hd]
    rw[hst];have:=xG e rest out placed hr.2 ho (fun x hx y hy=>hor x hx y (by simp[hy])) hp (fun x hx=>hb x (by simp[hx])) (fun h y hy=>hpl h y (by simp[hy]));refine⟨this.1,fun x=>(this.2 x).trans ?_⟩;rw[List.mem_cons];constructor
    ·rintro(h|h|⟨h,h'⟩)
     ·exact .inl h
     ·exact .inr (.inl h)
     ·exact .inr (.inr ⟨.inr h,h'⟩)
    ·rintro(h|h|⟨h|h,h'⟩)
     ·exact .inl h
     ·exact .inr (.inl h)
     ·subst h;exact absurd hd h'
     ·exact .inr (.inr ⟨h,h'⟩)
   ·have hst:cO e (out,placed) q=(out++[q],placed):=by
     unfold cO;simp[hnp,hd]
    rw[hst];have:=xG e rest (out++[q]) placed hr.2 (by
      refine List.pairwise_append.2 ⟨ho,by simp,fun x hx y hy=>?_⟩
      obtain rfl:y=q:=by simpa using hy
      exact hor x hx y (by simp)) (fun x hx y hy=>by
      rcases List.mem_append.1 hx with hx|hx
      ·exact hor x hx y (by simp[hy])
      ·obtain rfl:x=q:=by simpa using hx
       exact hr.1 y hy) (fun h x hx=>by
      rcases List.mem_append.1 hx with hx|hx
      ·exact hp h x hx
      ·obtain rfl:x=q:=by simpa using hx
       exact hqe h hd) (fun x hx=>hb x (by simp[hx])) (fun h y hy=>hpl h y (by simp[hy]))
    refine⟨this.1,fun x=>(this.2 x).trans ?_⟩;simp only[List.mem_append,List.mem_cons,List.not_mem_nil,or_false];constructor
    ·rintro((h|h)|h|⟨h,h'⟩)
     ·exact .inl h
     ·subst h;exact .inr (.inr ⟨.inl rfl,hd⟩)
     ·exact .inr (.inl h)
     ·exact .inr (.inr ⟨.inr h,h'⟩)
    ·rintro(h|h|⟨h|h,h'⟩)
     ·exact .inl (.inl h)
     ·exact .inr (.inl h)
     ·exact .inl (.inr h)
     ·exact .inr (.inr ⟨h,h'⟩)
theorem oM{f:List Int→Option Int}{L:List (List Int×Int)}{e:List Int×Int}(h:Lists f L)(he:EntOk e):Lists (oL f e.1 e.2) (aM L e).1∧(aM L e).2 = !old? f e.1 e.2:=by
 have hany:L.any (fC e)=old? f e.1 e.2:=by
  cases h1:f e.1 with
  | none=>
   have:old? f e.1 e.2=false:=by unfold old?;simp[h1]
   rw[this,List.any_eq_false];intro q hq hbl;unfold fC at hbl;simp only[Bool.and_eq_true,decide_eq_true_eq] at hbl;have:=((h.mem q).1 hq).2;rw[hbl.1,h1] at this;cases this
  | some t=>
   unfold old?;rw[h1];simp only[Option.isSome_some,Bool.true_and,Option.getD_some];rw[Bool.eq_iff_iff,List.any_eq_true,decide_eq_true_eq];constructor
   ·rintro⟨q,hq,hbl⟩;unfold fC at hbl;simp only[Bool.and_eq_true,decide_eq_true_eq] at hbl;have:=((h.mem q).1 hq).2;rw[hbl.1,h1] at this;injection this with this
    omega
   ·intro hle;exact⟨(e.1,t),(h.mem _).2 ⟨⟨he.dig,h.exp _ _ he.dig h1⟩,h1⟩,by simp[fC,hle]⟩
 rcases jb (old? f e.1 e.2) with ho|ho
 ·have e1:aM L e=(L,false):=by unfold aM;rw[hany,ho];rfl
  have e2:oL f e.1 e.2=f:=by unfold oL;rw[if_pos ho]
  rw[e1,e2,ho];exact⟨h,rfl⟩
 ·have e1:aM L e=(if (j9 L e).2 then (j9 L e).1 else (j9 L e).1++[e],true):=by unfold aM;rw[hany,ho];rfl
  have e2:oL f e.1 e.2=upd f e.1 e.2:=by unfold oL;rw[ho];rfl
  rw[e1,e2,ho];refine⟨?_,rfl⟩;have hb:∀ q∈L,q.1=e.1→q.2<e.2:=fun q hq hd=>by
   have h1:=List.any_eq_false.1 (hany.trans ho) q hq;unfold fC at h1;simp only[Bool.and_eq_true,decide_eq_true_eq,not_and] at h1;have:=h1 hd;omega
  have key:=xG e L [] false h.sorted (by simp) (by simp) (by simp) hb (by simp);refine⟨fun p=>?_,key.1,fun d t hd ht=>?_⟩
  ·refine(key.2 p).trans ?_;rw[h.mem p];unfold upd;by_cases hp:p.1=e.1
   ·rw[if_pos hp];constructor
    ·rintro(h1|⟨_,h1⟩|⟨_,h1⟩)
     ·simp at h1
     ·subst h1;exact⟨he,rfl⟩
     ·exact absurd hp h1
    ·rintro⟨_,h1⟩;injection h1 with h1
     exact .inr (.inl ⟨rfl,Prod.ext hp h1.symm⟩)
   ·rw[if_neg hp];constructor
    ·rintro(h1|⟨_,h1⟩|⟨h1,_⟩)
     ·simp at h1
     ·subst h1;exact absurd rfl hp
     ·exact h1
    ·intro h1;exact .inr (.inr ⟨h1,hp⟩)
  ·unfold upd at ht;split at ht
   ·injection ht with ht
    subst ht;exact he.exp
   ·exact h.exp d t hd ht
theorem Lists.nil:Lists (fun _=>none) []:=⟨fun p=>by simp,List.Pairwise.nil,fun d t _ h=>by cases h⟩
def bN(l:List (List Int×Int)):List (List Int×Int):=l.foldl (fun o e=>(aM o e).1) []
theorem mP(l:List (List Int×Int))(k:Nat)(h:k<l.length):bN (l.take (k+1))=(aM (bN (l.take k)) l[k]).1:=by
 unfold bN;rw[List.take_succ_eq_append_getElem h,List.foldl_append];rfl
theorem y9:∀ l:List (List Int×Int),(∀ p∈l,EntOk p)→Lists (mO l).1 (bN l):=by
 intro l hok;have key:∀ k,k≤l.length→Lists (mO (l.take k)).1 (bN (l.take k))∧(bN (l.take k)).length≤k:=by
  intro k;induction k with
  | zero=>
   intro _;rw[GT];exact⟨Lists.nil,Nat.le_refl _⟩
  | succ k ih=>
   intro hk;have hlt:k<l.length:=by omega
   obtain⟨h1,h2⟩:=ih (by omega);rw[uP l k hlt,mP l k hlt];have:=kD (bN (l.take k)) l[k];exact⟨(oM h1 (hok _ (List.getElem_mem hlt))).1,by omega⟩
 have:=(key l.length (Nat.le_refl _)).1
 rwa [List.take_length] at this
theorem oN(l:List (List Int×Int)):(bN l).length≤l.length:=by
 have key:∀ k,k≤l.length→(bN (l.take k)).length≤k:=by
  intro k;induction k with
  | zero=>intro _;exact Nat.le_refl _
  | succ k ih=>
   intro hk;have hlt:k<l.length:=by omega
   have h2:=ih (by omega);rw[mP l k hlt];have:=kD (bN (l.take k)) l[k];omega
 have:=key l.length (Nat.le_refl _)
 rwa [List.take_length] at this
set_option maxRecDepth 100000
open Go.RowKit
attribute [local irreducible] wpQuiet
theorem dP{w:World}{b off:Nat}{p:List Int×Int}(hr:w.rangeAt b off (aC p))(hp:EntOk p):w.rangeAt b off (u8s p.1)∧w.cell? ⟨b,off+32,none⟩=some (.int .i64 p.2):=by
 have h32:(u8s p.1).length=32:=by simp[u8s,hp.dig.len]
 constructor
 ·intro j u hj;refine hr j u ?_;have hlt:=(List.getElem?_eq_some_iff.1 hj).1;simp only[aC,cY];rw[List.getElem?_append_left hlt];exact hj
 ·refine hr 32 _ ?_;simp only[aC,cY];rw[List.getElem?_append_right (by omega),h32];rfl
theorem zA(va:Value)(l:List (List Int×Int))(d:List Int)(now:Int)(w:World)(hs:Sn w 33 va l.length (l.flatMap aC))(hok:∀ p∈l,EntOk p)(hl:l.length≤1000)(hd:DigOk d):
  Calls Tryz.prog 69 #[va,.agg (u8s d).toArray,.int .i64 now] w fun e w'=>e = .returned (.bool (l.any fun p=>decide (p.1=d) && decide (now≤p.2)))∧Below w.heap.size w w':=by
 obtain⟨A,cap,rfl,hcap,_,_⟩:=id hs;have HS:=jz hs;have HOK:=jz hok;clear hs hok;have hbA:Below w.heap.size w (w.alloc (.cells (u8s d).toArray 33)):=(by repeat (first|exact Below.refl _ _|assumption|refine bR ?_ _|refine Below.setCell ?_ (by first|exact Nat.le_refl _|assumption|omega|(simp <;> omega)) _|refine Below.alloc ?_ (by first|exact Nat.le_refl _|assumption|omega|(simp <;> omega)) _));have hrd:=(Blk.new w 33 (u8s d).toArray).range;have hd32:(u8s d).length=32:=by simp[u8s,hd.len]
 rw[jt] at hrd;go_enter Tryz.func69,Tryz.ntmps69
 go_wp2_with fail
 obtain⟨w1,hw1⟩:=je (w.alloc (.cells (u8s d).toArray 33));rw[← hw1] at hbA hrd ⊢;clear hw1;have HRD:=jz hrd;have hs1:=HS.below hbA;clear hrd;go_loopw [7] (fun i wr=>∃ k:Nat,k≤l.length∧i = .int .i64 k∧Hid (∀ p∈l.take k,(decide (p.1=d) && decide (now≤p.2))=false)∧Below w1.heap.size w1 wr) (fun i _=>l.length-(intOf i).toNat)
 case atStart=>exact⟨0,Nat.zero_le _,rfl,jz (by simp),Below.refl _ _⟩
 case round=>
  obtain⟨k,hk,rfl,hno,hb⟩:=hrel;have hbW:=aB hbA hb;by_cases hlt:k<l.length
  ·obtain⟨b,off,rfl,hr⟩:=gH aC EntOk 33 aH (hs1.below hb) HOK.out k hlt;replace hr:wr.rangeAt b (off+k*33) (aC l[k]):=hr;have hpk:=HOK.out l[k] (List.getElem_mem hlt);obtain⟨hr1,htc⟩:=dP hr hpk;have hr2:wr.rangeAt w.heap.size 0 (u8s d):=fun j u hj=>Below.cell' hb (HRD.out j u hj)
   have h32:(u8s l[k].1).length=32:=by simp[u8s,hpk.dig.len]
   have heq:=C8 hpk.dig hd;have hud:=Tryz.underlying33;have hua:(Tryz.prog.info? 33).map (·.size)=some (u8s l[k].1).length:=by rw[h32];kernel_rfl
   have hub:(Tryz.prog.info? 33).map (·.size)=some (u8s d).length:=by rw[hd32];kernel_rfl
   have hi0:(0:Int)≤k:=by omega
   have hi1:(k:Int)<l.length:=by omega
   have HR1:=jz hr1;have HR2:=jz hr2;have HIN:=jz (List.getElem_mem hlt);have hsnoc:Hid ((decide (l[k].1=d) && decide (now≤l[k].2))=false→∀ p∈l.take (k+1),(decide (p.1=d) && decide (now≤p.2))=false):=jz (fun hf p hp=>by
    rw[List.take_succ_eq_append_getElem hlt,List.mem_append] at hp
    rcases hp with hp|hp
    ·exact hno.out p hp
    ·obtain rfl:p=l[k]:=by simpa using hp
     exact hf)
   clear hr hr1 hr2;go_wp2_with fail
   rcases jb (decide (l[k].1=d)) with t1|t1 <;> rcases jb (decide (now≤l[k].2)) with t2|t2
   all_goals
    rw[t1] at heq;refine wp_region_quiet_lit (by kernel_rfl) (by kernel_rfl) ?_
    repeat (first
     | (refine kH 33 (.tmp 17) (by exact rfl) (by exact rfl) (by exact rfl) HR1.out hud rfl hua ?_;simp only[jq])
     | (refine kH 33 (.tmp 4) (by exact rfl) (by exact rfl) (by exact rfl) HR2.out hud rfl hub ?_;simp only[jq])
     | quiet_step (fail))
    refine wpQuiet_nil ?_;intro w2 hw2;obtain⟨nq,hw3⟩:=hw2;subst hw3;go_wp2_with fail
   ·go_ret;refine⟨?_,bR hbW _⟩;have:(l.any fun p=>decide (p.1=d) && decide (now≤p.2))=true:=List.any_eq_true.2 ⟨l[k],HIN.out,by rw[t1,t2];rfl⟩;rw[this];rfl
   all_goals
    rw[t1,t2] at hsnoc;exact⟨⟨k+1,by omega,by go_num,jz (hsnoc.out rfl),bR hb _⟩,by simp[intOf];omega⟩
  ·obtain rfl:k=l.length:=by omega
   rw[List.take_length] at hno;go_wp2_with fail
   go_ret;refine⟨?_,hbW⟩;have:(l.any fun p=>decide (p.1=d) && decide (now≤p.2))=false:=List.any_eq_false.2 fun p hp=>by rw[hno.out p hp];simp
   rw[this];rfl
end
section
set_option maxRecDepth 100000
open Go.RowKit
theorem nN{w:World}{g:Nat}{T:TypeId}{p:List Int×Int}(h:Blk w g T (aC p).toArray)(hp:EntOk p):w.rangeAt g 0 (u8s p.1)∧w.cell? ⟨g,32,none⟩=some (.int .i64 p.2):=by
 have h32:(u8s p.1).length=32:=by simp[u8s,hp.dig.len]
 constructor
 ·intro j u hj;rw[Nat.zero_add,h.cell j];have hlt:=(List.getElem?_eq_some_iff.1 hj).1;simp only[List.getElem?_toArray,aC,cY];rw[List.getElem?_append_left hlt];exact hj
 ·rw[h.cell 32];simp only[List.getElem?_toArray,aC,cY];rw[List.getElem?_append_right (by omega),h32];rfl
theorem GU{P:Program}{f:FuncId}{args:Array Value}{Q:Ending→World→Prop}(w':World)(h:∀ w1,w1=w'→Calls P f args w1 Q):Calls P f args w' Q:=h _ rfl
theorem xH(p q:List Int×Int)(w:World)(hp:EntOk p)(hq:EntOk q):
  Calls Tryz.prog 60 #[.agg (aC p).toArray,.agg (aC q).toArray] w fun e w'=>e = .returned (.int .i64 (dE p q))∧∃(n:Nat) (os:Array Obj),w'=Sort.grow (w.drewN n) os:=by
 have hbA:Below w.heap.size w ((w.alloc (.cells (aC p).toArray 35)).alloc (.cells (aC q).toArray 35)):=(by repeat (first|exact Below.refl _ _|assumption|refine bR ?_ _|refine Below.setCell ?_ (by first|exact Nat.le_refl _|assumption|omega|(simp <;> omega)) _|refine Below.alloc ?_ (by first|exact Nat.le_refl _|assumption|omega|(simp <;> omega)) _));have hB1:=(Blk.new w 35 (aC p).toArray).alloc (.cells (aC q).toArray 35);have hB2:=Blk.newAt (w.alloc (.cells (aC p).toArray 35)) 35 (aC q).toArray (w.heap.size+1) (by simp);obtain⟨hr1,hc1⟩:=nN hB1 hp;obtain⟨hr2,hc2⟩:=nN hB2 hq;have l1:=aH p hp;have l2:=aH q hq;go_enter Tryz.func60,Tryz.ntmps60
 have HR1:=jz hr1;have HR2:=jz hr2;clear hB1 hB2 hr1 hr2;rcases jb (jF p.2 q.2 == 0) with t1|t1
 all_goals
  go_wp2_with fail
  refine GU ((w.alloc (.cells (aC p).toArray 35)).alloc (.cells (aC q).toArray 35)) (fun w1 hw1=>?_);rw[← hw1] at hbA HR1 HR2;have HW:Hid (w1=Sort.grow (w.drewN 0) #[.cells (aC p).toArray 35,.cells (aC q).toArray 35]):=jz (by rw[hw1,Sort.alloc_eq_grow,Sort.alloc_eq_grow,Sort.grow_grow];rfl);clear hw1 hc1 hc2;refine(y7 p.2 q.2 w1).mono ?_;rintro e w2 ⟨rfl,rfl⟩;go_wp2_with fail
 ·go_region_held3 (fun w'=>w'.rangeAt w.heap.size 0 (u8s p.1)∧w'.rangeAt (w.heap.size+1) 0 (u8s q.1)∧Below w.heap.size w w')
   (first
    | (refine⟨HR1.out,HR2.out,hbA.drew⟩)
    | (go_split_ands;exact⟨by assumption,by assumption,by assumption⟩))
   ((go_at_call 86;refine(tO _ _ _ _ p.1 q.1 _ hp.dig hq.dig (by go_split_ands;assumption) (by go_split_ands;assumption)).mono ?_;rintro e wX ⟨rfl,rfl⟩))
  all_goals
   go_wp2_with fail
   go_ret;have u1:jF p.2 q.2=0:=by simpa using t1
   refine⟨?_,1,_,by rw[HW.out];rfl⟩;unfold dE;rw[if_neg (by rw[u1];simp)];rfl
 ·go_ret;have u1:jF p.2 q.2≠0:=by simpa using t1
  refine⟨?_,0,_,HW.out⟩;unfold dE;rw[if_pos u1];rfl
theorem pZ(p q:List Int×Int)(w:World)(hp:EntOk p)(hq:EntOk q):
  Calls Tryz.prog 35 #[.agg (aC p).toArray,.agg (aC q).toArray] w fun e w'=>e = .returned (.int .i64 (dE p q))∧Below w.heap.size w w':=by
 have hbA:Below w.heap.size w ((w.alloc (.cells (aC p).toArray 35)).alloc (.cells (aC q).toArray 35)):=(by repeat (first|exact Below.refl _ _|assumption|refine bR ?_ _|refine Below.setCell ?_ (by first|exact Nat.le_refl _|assumption|omega|(simp <;> omega)) _|refine Below.alloc ?_ (by first|exact Nat.le_refl _|assumption|omega|(simp <;> omega)) _));have hB1:=(Blk.new w 35 (aC p).toArray).alloc (.cells (aC q).toArray 35);have hB2:=Blk.newAt (w.alloc (.cells (aC p).toArray 35)) 35 (aC q).toArray (w.heap.size+1) (by simp);obtain⟨hr1,hc1⟩:=nN hB1 hp;obtain⟨hr2,hc2⟩:=nN hB2 hq;have HR1:=jz hr1;have HR2:=jz hr2;clear hB1 hB2 hr1 hr2;have hdp:=hp.dig.len;have hdq:=hq.dig.len;rcases jb (p.2 != q.2) with t1|t1
 ·have u1:p.2≠q.2:=by simpa using t1
  rcases jb (decide (p.2<q.2)) with t2|t2
  all_goals
   go_enter Tryz.func35,Tryz.ntmps35
   go_wp2_with fail
   go_ret;refine⟨?_,hbA⟩;unfold dE jF
  ·have:=of_decide_eq_true t2;simp[this]
  ·have:=of_decide_eq_false t2;have h3:q.2<p.2:=by omega
   simp[this,h3]
 ·go_enter Tryz.func35,Tryz.ntmps35
  go_wp2_with fail
  obtain⟨w1,hw1⟩:=je ((w.alloc (.cells (aC p).toArray 35)).alloc (.cells (aC q).toArray 35));rw[← hw1] at hbA HR1 HR2 ⊢;clear hw1 hc1 hc2;have u1:p.2=q.2:=by simpa using t1
  have HE:Hid (dE p q=fN p.1 q.1):=jz (by unfold dE jF;simp[u1]);clear u1 t1;go_loopw [5] (fun i wr=>∃ k:Nat,k≤32∧i = .int .i64 k∧Hid (fN p.1 q.1=fN (p.1.drop k) (q.1.drop k))∧Below w1.heap.size w1 wr) (fun i _=>32-(intOf i).toNat)
  case atStart=>exact⟨0,Nat.zero_le _,rfl,jz rfl,Below.refl _ _⟩
  case round=>
   obtain⟨k,hk,rfl,hD,hb⟩:=hrel;have hbW:=aB hbA hb;rcases Nat.lt_or_ge k 32 with hlt|hge
   ·have hk1:k<p.1.length:=by omega
    have hk2:k<q.1.length:=by omega
    have c1:wr.cell? ⟨w.heap.size,k,none⟩=some (.int .u8 p.1[k]):=Below.cell' hb (by have:=HR1.out k (.int .u8 p.1[k]) (by simp[u8s,hk1]);simpa using this);have c2:wr.cell? ⟨w.heap.size+1,k,none⟩=some (.int .u8 q.1[k]):=Below.cell' hb (by have:=HR2.out k (.int .u8 q.1[k]) (by simp[u8s,hk2]);simpa using this);have hstep:Hid (fN p.1 q.1=if p.1[k]<q.1[k] then -1 else if q.1[k]<p.1[k] then 1 else fN (p.1.drop (k+1)) (q.1.drop (k+1))):=jz (by
     rw[hD.out,List.drop_eq_getElem_cons hk1,List.drop_eq_getElem_cons hk2]
     rfl)
    obtain⟨x,hx⟩:=je (p.1[k]);obtain⟨y,hy⟩:=je (q.1[k]);rw[← hx] at c1 hstep;rw[← hy] at c2 hstep;clear hx hy;have hi0:(0:Int)≤k:=by omega
    have hi1:(k:Int)<32:=by omega
    rcases jb (decide (x<y)) with t1|t1
    ·go_wp2_with fail
     go_quiet (fail)
     go_wp2_with fail
     go_ret;refine⟨?_,bR hbW _⟩;rw[HE.out,hstep.out,if_pos (of_decide_eq_true t1)];rfl
    rcases jb (decide (y<x)) with t2|t2
    ·go_wp2_with fail
     go_quiet (fail)
     go_wp2_with fail
     go_quiet (fail)
     go_wp2_with fail
     go_ret;refine⟨?_,(by repeat (first|exact Below.refl _ _|assumption|refine bR ?_ _|refine Below.setCell ?_ (by first|exact Nat.le_refl _|assumption|omega|(simp <;> omega)) _|refine Below.alloc ?_ (by first|exact Nat.le_refl _|assumption|omega|(simp <;> omega)) _))⟩;rw[HE.out,hstep.out,if_neg (of_decide_eq_false t1),if_pos (of_decide_eq_true t2)];rfl
    ·go_wp2_with fail
     go_quiet (fail)
     go_wp2_with fail
     go_quiet (fail)
     go_wp2_with fail
     refine⟨⟨k+1,by omega,by go_num,jz ?_,(by repeat (first|exact Below.refl _ _|assumption|refine bR ?_ _|refine Below.setCell ?_ (by first|exact Nat.le_refl _|assumption|omega|(simp <;> omega)) _|refine Below.alloc ?_ (by first|exact Nat.le_refl _|assumption|omega|(simp <;> omega)) _))⟩,by simp[intOf];omega⟩;rw[hstep.out,if_neg (of_decide_eq_false t1),if_neg (of_decide_eq_false t2)]
   ·obtain rfl:k=32:=by omega
    go_wp2_with fail
    go_ret;refine⟨?_,hbW⟩;rw[HE.out,hD.out,List.drop_of_length_le (by omega),List.drop_of_length_le (by omega)];rfl
end
end Go.Proofs.YtombncedfleljaaGreat
