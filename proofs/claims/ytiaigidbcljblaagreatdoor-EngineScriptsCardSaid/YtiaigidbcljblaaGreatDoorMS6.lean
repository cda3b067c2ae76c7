import Derived.Test.YtiaigidbcljblaaGreatDoorMS1
import Derived.Test.YtiaigidbcljblaaGreatDoorMS2
import Derived.Test.YtiaigidbcljblaaGreatDoorMS3
import Derived.BigQuiet
import Derived.Deep.DeepCutAuto
import Derived.Laws.BitsAllLaws
set_option linter.unusedVariables false
set_option linter.unusedSimpArgs false
set_option maxRecDepth 100000
set_option maxHeartbeats 40000000
namespace Go.Proofs.YtiaigidbcljblaaGreatDoor
open Go.Proofs.Tryz
section
open Go.RowKit
theorem sU:∀ {xs ys:Wl},Bys xs->Bys ys->Lib.bytesOf xs=Lib.bytesOf ys->xs=ys
 | [],[],_,_,_=>rfl
 | [],_ :: _,_,_,h=>by simp[Lib.bytesOf] at h
 | _ :: _,[],_,_,h=>by simp[Lib.bytesOf] at h
 | a :: xs,b :: ys,hx,hy,h=>by
  simp only[Lib.bytesOf,List.map_cons,List.cons.injEq] at h;have ha:=hx a (by simp);have hb:=hy b (by simp);have h1:=congrArg UInt8.toNat h.1;simp only[UInt8.toNat_ofNat'] at h1;rw[sU (λc j=>hx c (by simp[j])) (λc j=>hy c (by simp[j])) h.2,show a=b by omega]
theorem sV(v1 v2:Value)(xs ys:Wl)(w:Wd)(h1:Sn w 1 v1 xs.length (u8s xs))(I:Sn w 1 v2 ys.length (u8s ys))(x:Bys xs)(hy:Bys ys):
  Wc 317 #[v1,v2] w λe w'=>e = .returned (.bool (decide (xs=ys)))/\w'=w:=by
 have key:∀(A:Option Addr) (cap:Nat) (zs:Wl),Sn w 1 (.slice A zs.length cap) zs.length (u8s zs)->Lib.BytesIn w A zs.length zs:=by
  intro A cap zs h;obtain⟨Z,D,hv,_,_,x⟩:=h;injection hv with hA _ _
  subst hA;intro V;obtain⟨b,off,rfl,U⟩:=x V;refine⟨b,off,rfl,λj J=>U j _ ?_⟩;rw[oO zs j J,jn,List.getElem?_eq_getElem J];rfl
 obtain⟨K,c1,rfl,_,_,_⟩:=id h1;obtain⟨O,R,rfl,_,_,_⟩:=id I;refine(Tryz.bytes_Equal_all K O xs.length c1 ys.length R xs ys w rfl rfl (key _ _ _ h1) (key _ _ _ I)).mono ?_;rintro e w' ⟨rfl,rfl⟩;refine⟨?_,rfl⟩;congr 2;by_cases h:xs=ys
 ·subst h;simp
 ·have:Lib.bytesOf xs≠Lib.bytesOf ys:=λe=>h (sU x hy e)
  simp[h,this]
end
section
theorem zC(d:Wl)(t:Int)(hd:d.length=32)(Z:Wa)(I:Z.size=33):((u8s d).zipIdx.foldl (fun(cs:Wa) (x:Value×Nat)=>cs.setIfInBounds x.2 x.1) Z).setIfInBounds 32 (.int .i64 t)=(cW d t).toArray:=by
 have j:(u8s d).length=32:=by simp[u8s,hd]
 have D:((u8s d).zipIdx.foldl (fun(cs:Wa) (x:Value×Nat)=>cs.setIfInBounds x.2 x.1) Z).size=33:=by
  have key:∀(l:List (Value×Nat)) (cs:Wa),(l.foldl (fun(cs:Wa) (x:Value×Nat)=>cs.setIfInBounds x.2 x.1) cs).size=cs.size:=by
   intro l;induction l with
   | nil=>intro cs;rfl
   | cons x l ih=>intro cs;rw[List.foldl_cons,ih,Array.size_setIfInBounds]
  rw[key];exact I
 apply Array.ext_getElem?;intro i;rw[Array.getElem?_setIfInBounds,nO,D,I,j,show(cW d t).toArray[i]? = (u8s d++[.int .i64 t])[i]? by simp[cW]];by_cases h1:32=i
 ·subst h1;rw[jP rfl,jP (by omega),jx (by omega),j];rfl
 ·rw[jQ h1];by_cases h2:i<32
  ·rw[jP (by omega),jy (by omega),Nat.sub_zero]
  ·rw[jQ (by omega),jx (by omega),j];rw[Array.getElem?_eq_none (by rw[I];omega),List.getElem?_eq_none (by simp;omega)]
theorem L8(d:Wl)(t:Int)(hd:DigOk d)(Z:Wa)(D:Z.size=33):(cW d t).zipIdx.foldl (fun(cs:Wa) (x:Value×Nat)=>cs.setIfInBounds x.2 x.1) Z=(cW d t).toArray:=by
 have j:=lF hd t;apply Array.ext_getElem?;intro i;rw[nO,D,j,show(cW d t).toArray[i]? = (cW d t)[i]? by simp];by_cases h:i<33
 ·rw[jP (by omega),Nat.sub_zero]
 ·rw[jQ (by omega),Array.getElem?_eq_none (by omega),List.getElem?_eq_none (by omega)]
end
section
open Go.RowKit
section
variable {F : Fence} {n : Nat} {P : Program} {ops : Array Oper} {rest : List Oper} {o : Oper} {a : Act} {w : Wd} {Q : Exit -> Act -> Wd -> Prop}
theorem TY{v:Value}{w':Wd}(j:∀ f,F.fn f)(hs:∀ ρ,o.semAt F.round ρ=execOp ρ o)(D:Region.wanted o (yielded ops a.tmps)=true)(hrun:(execOp a.eval o).run P w = .ok (.value v) w')
  (h:wpListIn F n P ops Q rest (a.put o.dst v) w'):wpListIn F n P ops Q (o :: rest) a w:=
 wpListIn_step λK x=>by
  rw[jP D];refine⟨λf _=>j f,?_⟩;rw[hs,hrun];exact x _ _ h
theorem ZI{w':Wd}(j:∀ f,F.fn f)(hs:∀ ρ,o.semAt F.round ρ=execOp ρ o)(D:Region.wanted o (yielded ops a.tmps)=true)(hrun:(execOp a.eval o).run P w = .ok .skip w')
  (h:wpListIn F n P ops Q rest (a.put o.dst undef) w'):wpListIn F n P ops Q (o :: rest) a w:=
 wpListIn_step λK x=>by
  rw[jP D];refine⟨λf _=>j f,?_⟩;rw[hs,hrun];exact x _ _ h
theorem iLd(ty:TypeId)(x:Operand)(j:o.op = .load ty x)(D:∀ f,F.fn f)(K:Region.wanted o (yielded ops a.tmps)=true)
  {b off:Nat} (O:a.eval x = .pointer (some ⟨b,off,none⟩)) {cs:Wv} {d:TypeDesc} (I:w.rangeAt b off cs)
  (J:P.underlying ty=some d) (hd:d.isRow=true) (hi:(P.info? ty).map (·.size)=some cs.length)
  (h:wpListIn F n P ops Q rest (a.put o.dst (.agg cs.toArray)) w):wpListIn F n P ops Q (o :: rest) a w:=by
 refine TY D (fun ρ=>Oper.semAt_eq _ _ _ (λc=>by rw[j];exact λe=>by cases e)) K ?_ h;unfold execOp;simp only[j,O,Instr.loadAt,Instr.sureAddr,Sem.run_bind,Sem.run_pure,Result.andThen_ok,run_loadVar_mid w b off ty cs d I J hd hi]
theorem iSt(ty:TypeId)(x y:Operand)(J:o.op = .store ty x y)(K:∀ f,F.fn f)(O:Region.wanted o (yielded ops a.tmps)=true)
  {g t:Nat} {old cells:Wa} (R:a.eval x = .pointer (some ⟨g,0,none⟩)) (hy:a.eval y = .agg cells) (I:Blk w g t old)
  (hi:(P.info? ty).map (·.size)=some cells.size) (D:old.size=cells.size) (h1:cells.all (·.oneCell')=true)
  (h:∀ w2,Blk w2 g t cells->Below g w w2->(∀ j,j≠g->w2.heap[j]? = w.heap[j]?)->w2.heap.size=w.heap.size->wpListIn F n P ops Q rest (a.put o.dst undef) w2):
  wpListIn F n P ops Q (o :: rest) a w:=by
 refine ZI (w':=w.setRow g cells) K (fun ρ=>Oper.semAt_eq _ _ _ (λc=>by rw[J];exact λe=>by cases e)) O ?_ ?_
 ·unfold execOp;simp only[J,R,hy,Instr.storeAt,Instr.sureAddr,Sem.run_bind,Sem.run_pure,Result.andThen_ok,run_storeVar_row w g t ty old cells I hi D h1]
 ·exact h _ (setRow_heap w g old cells t (0,0) I) ⟨rfl,rfl,rfl,by simp,λk U=>setRow_other w g k cells (by omega)⟩ (λj hg=>setRow_other w g j cells hg) (by simp)
theorem pR(ty:TypeId)(x y:Operand)(D:o.op = .store ty x y)(I:∀ f,F.fn f)
  {old cells:Wa} {t:TypeId} (J:Region.wanted o (yielded ops a.tmps)=true) (K:a.eval x = .pointer (some ⟨w.heap.size,0,none⟩)) (hy:a.eval y = .agg cells)
  (hi:(P.info? ty).map (·.size)=some cells.size) (j:old.size=cells.size) (h1:cells.all (·.oneCell')=true)
  (h:∀ w2,w2=w.alloc (.cells cells t)->wpListIn F n P ops Q rest (a.put o.dst undef) w2):wpListIn F n P ops Q (o :: rest) a (w.alloc (.cells old t)):=by
 refine ZI (w':=w.alloc (.cells cells t)) I (fun ρ=>Oper.semAt_eq _ _ _ (λc=>by rw[D];exact λe=>by cases e)) J ?_ (h _ rfl);unfold execOp;simp only[D,K,hy,Instr.storeAt,Instr.sureAddr,Sem.run_bind,Sem.run_pure,Result.andThen_ok,run_storeVar_row (w.alloc (.cells old t)) w.heap.size t ty old cells (heap_alloc_new w _) hi j h1];rw[qG]
theorem iAl(ty:TypeId)(zs:Wa)(j:o.op = .alloc ty)(x:∀ f,F.fn f)(D:Region.wanted o (yielded ops a.tmps)=true)(I:∀ w,(zeroValue ty).run P w = .ok (.agg zs) w)
  (h:wpListIn F n P ops Q rest (a.put o.dst (.pointer (some ⟨w.heap.size,0,none⟩))) (w.alloc (.cells zs ty))):wpListIn F n P ops Q (o :: rest) a w:=by
 refine TY (v:=.pointer (some ⟨w.heap.size,0,none⟩)) (w':=w.alloc (.cells zs ty)) x (fun ρ=>Oper.semAt_eq _ _ _ (λc=>by rw[j];exact λe=>by cases e)) D ?_ h;unfold execOp;simp only[j];unfold Instr.alloc newVar newRow;simp[Sem.run_bind,I,Value.cells]
theorem ZJ{t e s bytes:Nat}(T:SlT P t e s bytes)(p q:Operand)(hF:∀ f,F.fn f)
  (R:o.op = .call { callee:=.builtin .append,args:=#[p,q],argTypes:=#[t,t] }) (hw:Region.wanted o (yielded ops a.tmps)=true)
  {base k m:Nat} {v x:Value} {U j:Wv} (hv:a.eval p=v) (J:w.ownsRow base e s v k U) (O:a.eval q=x) (hx:Sn w s x m j)
  (h1:∀ u∈j,u.oneCell'=true) (K:k+m<=maxLen) (D:(k+m)*bytes<=140737488355328) (I:base<=w.heap.size)
  (h:∀ v' w',w'.ownsRow base e s v' (k+m) (U++j)->w.grownBy w' v.ownBlock->(v'.ownBlock=v.ownBlock\/v'.ownBlock=some w.heap.size)->wpListIn F n P ops Q rest (a.put o.dst v') w'):
  wpListIn F n P ops Q (o :: rest) a w:=by
 obtain⟨v',w',hrun,V,Z,h4⟩:=iI (ty:=o.type) T J hx h1 K D I;refine TY (v:=v') (w':=w') hF (fun ρ=>Oper.semAt_eq _ _ _ (λc=>by rw[R];exact λe=>by cases e)) hw ?_ (h v' w' V Z h4);unfold execOp;simp only[R,resolve,invoke,builtin,Sem.run_bind,Sem.run_pure,Result.andThen_ok,List.map_toArray,List.map_cons,List.map_nil,hv,O,hrun]
end
theorem BH(f:FuncId):Fence.wide.fn f:=trivial
theorem bP(l:Nat)(f:FuncId):(Fence.wide.inRound l).fn f:=trivial
theorem inR{P:Program}{n:Nat}{f:FuncId}{args:Wa}{w:Wd}{R:Ending->Wd->Prop}(l:Nat)(h:Calls P f args w R):CallsIn (Fence.wide.inRound l) n P f args w R:=CallsIn.inRound l (callsIn_wide.2 h)
theorem nQ{P:Program}{f:FuncId}{fn:Func}{c:Code}{args:Wa}{w:Wd}{R:Ending->Wd->Prop}(j:P.funcs[f]? = some fn)(hb:fn.body=some c)
  (h:c.wpIn Fence.wide 9 P (bodyPostM Fence.wide 9 P fn R) { tmps:=args++Array.replicate (fn.ntmps-args.size) undef,defers:=[] } w):Calls P f args w R:=
 callsIn_wide.1 (callsIn_of_wp_marks j hb trivial h)
end
section
open Go.RowKit
section
variable {P : Program} {ops : Array Oper} {Q : Exit -> Act -> Wd -> Prop} {S : Wd -> Prop} {a : Act} {w : Wd} {listed : Array Bool} {fuel : Nat}
theorem p1(a:Act)(t:Tmp)(v:Value):a.put (some t) v={ a with tmps:=a.tmps.setIfInBounds t v }:=rfl
theorem p5(a:Act)(v:Value):a.put none v=a:=rfl
theorem p2{α:Type}(l:List α)(i:Nat)(v:α):l.toArray.setIfInBounds i v=(l.set i v).toArray:=List.setIfInBounds_toArray ..
theorem p3{α:Type}(x v:α)(l:List α):(x :: l).set 0 v=v :: l:=rfl
theorem p4{α:Type}(x v:α)(l:List α)(n:Nat):(x :: l).set (n+1) v=x :: l.set n v:=rfl
def kOk(ops:Array Oper)(listed:Array Bool)(a:Act)(i:Nat)(want:Bool):Bool:=
 Region.noSelect ops && Region.free .any ops listed i && (Region.ready .any ops listed).contains i && ((ops[i]?).map (λo=>Region.wanted o (yielded ops a.tmps))).any (· == want)
theorem kOk.out{i:Nat}{b:Bool}{o:Oper}(j:ops[i]? = some o)(h:kOk ops listed a i b=true):Region.noSelect ops=true/\Region.free .any ops listed i=true/\(Region.ready .any ops listed).contains i=true/\Region.wanted o (yielded ops a.tmps)=b:=by
 unfold kOk at h;simp only[Bool.and_eq_true,j,Option.map_some,Option.any_some,beq_iff_eq] at h;exact⟨h.1.1.1,h.1.1.2,h.1.2,h.2⟩
theorem kT(i:Nat)(dst:Option Tmp)(v:Value){o:Oper}(x:ops[i]? = some o:=by rfl)(j:o.dst=dst:=by rfl)(I:kOk ops listed a i true=true:=by kernel_rfl)
  (hy:∀ w,S w->(execOp a.eval o).run P w = .ok (.value v) w:=by intro w hS;unfold execOp;go_simp)
  (D:∀ c a w,Q (.panic c) (a.put dst v) w->Q (.panic c) a w:=by exact λ_ _ _ h=>h) (hS:S w:=by assumption)
  (h:wpAnyH P .any ops Q S fuel (listed.setIfInBounds i true) (a.put dst v) w):wpAnyH P .any ops Q S (fuel+1) listed a w:=by
 subst j;exact
  have k:=kOk.out x I
  wpAnyH_take x k.1 k.2.1 k.2.2.1 D (.inl ⟨k.2.2.2,hy⟩) hS h
theorem kX(i:Nat)(dst:Option Tmp){o:Oper}(x:ops[i]? = some o:=by rfl)(j:o.dst=dst:=by rfl)(I:kOk ops listed a i false=true:=by kernel_rfl)
  (D:∀ c a w,Q (.panic c) (a.put dst undef) w->Q (.panic c) a w:=by exact λ_ _ _ h=>h) (hS:S w:=by assumption)
  (h:wpAnyH P .any ops Q S fuel (listed.setIfInBounds i true) (a.put dst undef) w):wpAnyH P .any ops Q S (fuel+1) listed a w:=by
 subst j;exact
  have k:=kOk.out x I
  wpAnyH_take x k.1 k.2.1 k.2.2.1 D (.inr ⟨k.2.2.2,rfl⟩) hS h
theorem kM(i:Nat)(dst:Option Tmp)(v:Value){o:Oper}{x:Operand}(I:ops[i]? = some o:=by rfl)(j:o.dst=dst:=by rfl)(D:o.op = .move x:=by rfl)(O:a.eval x=v:=by kernel_rfl)(K:kOk ops listed a i true=true:=by kernel_rfl)
  (J:∀ c a' w,Q (.panic c) (a'.put dst v) w->Q (.panic c) a' w:=by exact λ_ _ _ h=>h) (hS:S w:=by assumption)
  (h:wpAnyH P .any ops Q S fuel (listed.setIfInBounds i true) (a.put dst v) w):wpAnyH P .any ops Q S (fuel+1) listed a w:=by
 subst j;exact
  have k:=kOk.out I K
  wpAnyH_take I k.1 k.2.1 k.2.2.1 J (.inl ⟨k.2.2.2,λw _=>by unfold execOp;simp only[D,O,Sem.run_pure]⟩) hS h
theorem rS(w:Wd)(D:Addr)(ty:TypeId)(v:Value)(x:((P.underlying ty).map (·.isRow))=some false)(I:w.cell? D=some v):(loadVar ty D).run P w = .ok v w:=by
 cases hd:P.underlying ty with
 | none=>rw[hd] at x;cases x
 | some d=>
  rw[hd] at x;have j:(isAgg ty).run P w = .ok false w:=by
   unfold isAgg;rw[Sem.run_bind,run_underlying hd w];cases d <;> simp_all
  simp[loadVar,Sem.run_bind,j,I]
theorem kC(i:Nat)(dst:Option Tmp){v:Value}{D:Addr}(U:∀ w,S w->w.cell? D=some v){o:Oper}{ty:TypeId}{x:Operand}(J:ops[i]? = some o:=by rfl)(j:o.dst=dst:=by rfl)(I:o.op = .load ty x:=by rfl)(Z:a.eval x = .pointer (some D):=by kernel_rfl)(R:((P.underlying ty).map (·.isRow))=some false:=by kernel_rfl)(O:kOk ops listed a i true=true:=by kernel_rfl)
  (K:∀ c a w,Q (.panic c) (a.put dst v) w->Q (.panic c) a w:=by exact λ_ _ _ h=>h) (hS:S w:=by assumption)
  (h:wpAnyH P .any ops Q S fuel (listed.setIfInBounds i true) (a.put dst v) w):wpAnyH P .any ops Q S (fuel+1) listed a w:=by
 subst j;exact
  have k:=kOk.out J O
  wpAnyH_take J k.1 k.2.1 k.2.2.1 K (.inl ⟨k.2.2.2,λw V=>by
   unfold execOp
   simp only[I,Z,Instr.loadAt,Instr.sureAddr,Sem.run_bind,Sem.run_pure,Result.andThen_ok,rS w D ty v R (U w V)]⟩) hS h
theorem kL(i:Nat)(dst:Option Tmp){cs:Wv}{b off n:Nat}(U:∀ w,S w->w.rangeAt b off cs)(R:cs.length=n){o:Oper}{ty:TypeId}{x:Operand}(J:ops[i]? = some o:=by rfl)(j:o.dst=dst:=by rfl)(I:o.op = .load ty x:=by rfl)(Z:a.eval x = .pointer (some ⟨b,off,none⟩):=by kernel_rfl)(D:((P.underlying ty).map (·.isRow))=some true:=by kernel_rfl)(hi:(P.info? ty).map (·.size)=some n:=by kernel_rfl)(O:kOk ops listed a i true=true:=by kernel_rfl)
  (K:∀ c a w,Q (.panic c) (a.put dst (.agg cs.toArray)) w->Q (.panic c) a w:=by exact λ_ _ _ h=>h) (hS:S w:=by assumption)
  (h:wpAnyH P .any ops Q S fuel (listed.setIfInBounds i true) (a.put dst (.agg cs.toArray)) w):wpAnyH P .any ops Q S (fuel+1) listed a w:=by
 subst j;have k:=kOk.out J O;cases hd:P.underlying ty with
 | none=>rw[hd] at D;cases D
 | some d=>
  rw[hd] at D;exact wpAnyH_take J k.1 k.2.1 k.2.2.1 K (.inl ⟨k.2.2.2,λw V=>by
   unfold execOp
   simp only[I,Z,Instr.loadAt,Instr.sureAddr,Sem.run_bind,Sem.run_pure,Result.andThen_ok,run_loadVar_mid w b off ty cs d (U w V) hd (by simpa using D) (by rw[R];exact hi)]⟩) hS h
theorem kB(i:Nat)(dst:Option Tmp){vs:List (Nat×Value)}{cells:Wa}{t:TypeId}(hb:P.built t vs=some cells){o:Oper}{parts:Array (Nat×Operand)}(I:ops[i]? = some o:=by rfl)(j:o.dst=dst:=by rfl)(D:o.op = .build t parts:=by rfl)(J:(parts.toList.map fun(i,x)=>(i,a.eval x))=vs:=by rfl)(O:kOk ops listed a i true=true:=by kernel_rfl)
  (K:∀ c a w,Q (.panic c) (a.put dst (.agg cells)) w->Q (.panic c) a w:=by exact λ_ _ _ h=>h) (hS:S w:=by assumption)
  (h:wpAnyH P .any ops Q S fuel (listed.setIfInBounds i true) (a.put dst (.agg cells)) w):wpAnyH P .any ops Q S (fuel+1) listed a w:=by
 subst j;exact
  have k:=kOk.out I O
  wpAnyH_take I k.1 k.2.1 k.2.2.1 K (.inl ⟨k.2.2.2,λw R=>by
   rw[<- Array.toList_map] at J
   unfold execOp
   simp only[D,Sem.run_bind,run_build w t _ cells (by rw[J];exact hb),Result.andThen_ok]
   rfl⟩) hS h
def kOne(ops:Array Oper)(listed:Array Bool)(a:Act)(i:Nat):Bool:=(Region.ready .any ops listed == [i]) && ((ops[i]?).map (λo=>Region.wanted o (yielded ops a.tmps))).any (· == true)
theorem kOne.out{i:Nat}{o:Oper}(j:ops[i]? = some o)(h:kOne ops listed a i=true):Region.ready .any ops listed=[i]/\Region.wanted o (yielded ops a.tmps)=true:=by
 unfold kOne at h;simp only[Bool.and_eq_true,j,Option.map_some,Option.any_some,beq_iff_eq] at h;exact h
theorem kF(i:Nat)(dst:Option Tmp){o:Oper}{f:FuncId}{args:Wa}(h:Calls P f args w λe w'=>∃ v,e = .returned v/\S w'/\(S w'->wpAnyH P .any ops Q S fuel (listed.setIfInBounds i true) (a.put dst v) w'))(x:ops[i]? = some o:=by rfl)(j:o.dst=dst:=by rfl)(I:kOne ops listed a i=true:=by kernel_rfl)
  (hent:(execOp a.eval o).run P w = .ok (.enter f args) w:=by unfold execOp;go_simp):wpAnyH P .any ops Q S (fuel+1) listed a w:=by
 subst j;have k:=kOne.out x I;refine wpAnyH_ready k.1 (by simp) (AllReadyH.cons x (λK D=>?_) jN);rw[jP k.2];unfold Oper.wp;rw[hent,Oper.upon_enter];refine h.mono ?_;rintro e w' ⟨v,rfl,hS,J⟩;exact D _ _ hS J
theorem kS(i:Nat)(dst:Option Tmp)(v:Value)(w2:Wd){o:Oper}(x:ops[i]? = some o:=by rfl)(j:o.dst=dst:=by rfl)(I:kOne ops listed a i=true:=by kernel_rfl)
  (hrun:(execOp a.eval o).run P w = .ok (.value v) w2:=by unfold execOp;go_simp) (hS:S w2:=by assumption)
  (h:wpAnyH P .any ops Q S fuel (listed.setIfInBounds i true) (a.put dst v) w2):wpAnyH P .any ops Q S (fuel+1) listed a w:=by
 subst j;have k:=kOne.out x I;refine wpAnyH_ready k.1 (by simp) (AllReadyH.cons x (λK D=>?_) jN);rw[jP k.2];unfold Oper.wp;rw[hrun,Oper.upon_value];exact D _ _ hS (λ_=>h)
theorem kR(i:Nat)(dst:Option Tmp){cs:Wv}{b off n:Nat}(ht:w.there b off n)(I:cs.length=n)(h1:∀ u∈cs,u.oneCell'=true)(hS:S (w.setCells b off cs)){o:Oper}{ty:TypeId}{x y:Operand}(J:ops[i]? = some o:=by rfl)(j:o.dst=dst:=by rfl)(D:o.op = .store ty x y:=by rfl)(U:a.eval x = .pointer (some ⟨b,off,none⟩):=by kernel_rfl)(hy:a.eval y = .agg cs.toArray:=by kernel_rfl)(hi:(P.info? ty).map (·.size)=some n:=by kernel_rfl)(R:kOne ops listed a i=true:=by kernel_rfl)
  (h:wpAnyH P .any ops Q S fuel (listed.setIfInBounds i true) (a.put dst undef) (w.setCells b off cs)):wpAnyH P .any ops Q S (fuel+1) listed a w:=by
 subst j;have k:=kOne.out J R;refine wpAnyH_ready k.1 (by simp) (AllReadyH.cons J (λK O=>?_) jN);rw[jP k.2];refine wp_store_mid ty x y D b off cs.toArray U hy (by rw[js,I];exact ht) (by rw[js,I];exact hi) (all_oneCell_toArray h1) ?_;rw[jt];exact O _ _ hS (λ_=>h)
theorem kZ{n:Nat}(S:Wd->Prop){D:Nat}(hS:S w.drew)(j:P.follows .mixedOrders=true:=by kernel_rfl)(x:ops.size=n:=by kernel_rfl)
  (h:S w.drew->wpAnyH P .any ops Q S n (Array.replicate n false) a w.drew):(Code.region D ops true).wp P Q a w:=by
 subst x;exact wp_region_held_drew j hS h
theorem kE{listed:Array Bool}(j:Region.ready .any ops listed=[]:=by kernel_rfl)(h:Q .normal a w):wpAnyH P .any ops Q S fuel listed a w:=wpAnyH_done j h _
end
section
variable {P : Program} {ops : Array Oper} {Q : Exit -> Act -> Wd -> Prop} {S : Wd -> Prop} {a a' : Act} {w : Wd} {listed l' : Array Bool} {fuel : Nat} {dst : Option Tmp}
theorem qP:(∀(a:Act) (t:Tmp) (v:Value),a.put (some t) v={ a with tmps:=a.tmps.setIfInBounds t v })/\(∀(a:Act) (v:Value),a.put none v=a)/\(∀ {α:Type} (l:List α) (i:Nat) (v:α),l.toArray.setIfInBounds i v=(l.set i v).toArray)/\(∀ {α:Type} (x v:α) (l:List α),(x :: l).set 0 v=v :: l)/\(∀ {α:Type} (x v:α) (l:List α) (n:Nat),(x :: l).set (n+1) v=x :: l.set n v):=⟨p1,p5,p2,p3,p4⟩
theorem qT(i:Nat)(v:Value)(h:wpAnyH P .any ops Q S fuel l' a' w){x:Op}{D:TypeId}{ps:String}{j:Array Edge}{gd:Option (Nat×Bool)}(O:ops[i]? = some ⟨dst,x,D,ps,j,gd⟩:=by rfl)(K:listed.setIfInBounds i true=l':=by(try simp only[qP]) <;> rfl)(ha:a.put dst v=a':=by(try simp only[qP]) <;> rfl)(J:kOk ops listed a i true=true:=by kernel_rfl)
  (hy:∀ w,S w->(execOp a.eval ⟨dst,x,D,ps,j,gd⟩).run P w = .ok (.value v) w:=by intro w hS;unfold execOp;go_simp)
  (I:∀ c a w,Q (.panic c) (a.put dst v) w->Q (.panic c) a w:=by exact λ_ _ _ h=>h) (hS:S w:=by assumption):wpAnyH P .any ops Q S (fuel+1) listed a w:=by
 subst K ha;exact kT i dst v O rfl J hy I hS h
theorem qX(i:Nat)(h:wpAnyH P .any ops Q S fuel l' a' w){K:Op}{O:TypeId}{ps:String}{j:Array Edge}{gd:Option (Nat×Bool)}(J:ops[i]? = some ⟨dst,K,O,ps,j,gd⟩:=by rfl)(I:listed.setIfInBounds i true=l':=by(try simp only[qP]) <;> rfl)(ha:a.put dst undef=a':=by(try simp only[qP]) <;> rfl)(D:kOk ops listed a i false=true:=by kernel_rfl)
  (x:∀ c a w,Q (.panic c) (a.put dst undef) w->Q (.panic c) a w:=by exact λ_ _ _ h=>h) (hS:S w:=by assumption):wpAnyH P .any ops Q S (fuel+1) listed a w:=by
 subst I ha;exact kX i dst J rfl D x hS h
theorem qM(i:Nat)(v:Value)(h:wpAnyH P .any ops Q S fuel l' a' w){x:Operand}{R:TypeId}{ps:String}{j:Array Edge}{gd:Option (Nat×Bool)}(K:ops[i]? = some ⟨dst,.move x,R,ps,j,gd⟩:=by rfl)(J:listed.setIfInBounds i true=l':=by(try simp only[qP]) <;> rfl)(ha:a.put dst v=a':=by(try simp only[qP]) <;> rfl)(O:a.eval x=v:=by kernel_rfl)(I:kOk ops listed a i true=true:=by kernel_rfl)
  (D:∀ c a' w,Q (.panic c) (a'.put dst v) w->Q (.panic c) a' w:=by exact λ_ _ _ h=>h) (hS:S w:=by assumption):wpAnyH P .any ops Q S (fuel+1) listed a w:=by
 subst J ha;exact kM i dst v K rfl rfl O I D hS h
theorem qC(i:Nat){v:Value}{j:Addr}(U:∀ w,S w->w.cell? j=some v)(h:wpAnyH P .any ops Q S fuel l' a' w){ty:TypeId}{x:Operand}{Z:TypeId}{ps:String}{D:Array Edge}{gd:Option (Nat×Bool)}(O:ops[i]? = some ⟨dst,.load ty x,Z,ps,D,gd⟩:=by rfl)(K:listed.setIfInBounds i true=l':=by(try simp only[qP]) <;> rfl)(ha:a.put dst v=a':=by(try simp only[qP]) <;> rfl)(V:a.eval x = .pointer (some j):=by kernel_rfl)(R:((P.underlying ty).map (·.isRow))=some false:=by kernel_rfl)(J:kOk ops listed a i true=true:=by kernel_rfl)
  (I:∀ c a w,Q (.panic c) (a.put dst v) w->Q (.panic c) a w:=by exact λ_ _ _ h=>h) (hS:S w:=by assumption):wpAnyH P .any ops Q S (fuel+1) listed a w:=by
 subst K ha;exact kC i dst U O rfl rfl V R J I hS h
theorem qL(i:Nat){cs:Wv}{b off n:Nat}(R:∀ w,S w->w.rangeAt b off cs)(K:cs.length=n)(h:wpAnyH P .any ops Q S fuel l' a' w){ty:TypeId}{x:Operand}{Z:TypeId}{ps:String}{j:Array Edge}{gd:Option (Nat×Bool)}(O:ops[i]? = some ⟨dst,.load ty x,Z,ps,j,gd⟩:=by rfl)(J:listed.setIfInBounds i true=l':=by(try simp only[qP]) <;> rfl)(ha:a.put dst (.agg cs.toArray)=a':=by(try simp only[qP]) <;> rfl)(V:a.eval x = .pointer (some ⟨b,off,none⟩):=by kernel_rfl)(U:((P.underlying ty).map (·.isRow))=some true:=by kernel_rfl)(hi:(P.info? ty).map (·.size)=some n:=by kernel_rfl)(I:kOk ops listed a i true=true:=by kernel_rfl)
  (D:∀ c a w,Q (.panic c) (a.put dst (.agg cs.toArray)) w->Q (.panic c) a w:=by exact λ_ _ _ h=>h) (hS:S w:=by assumption):wpAnyH P .any ops Q S (fuel+1) listed a w:=by
 subst J ha;exact kL i dst R K O rfl rfl V U hi I D hS h
end
end
section
open Go.RowKit
attribute [local irreducible] wpQuiet wpAnyH
def arr{α:Type}(n:Nat)(f:Nat->α):List α:=(List.range n).map f
theorem aB{α:Type}(n:Nat)(f:Nat->α):(arr n f).length=n:=by simp[arr]
theorem fJ{α:Type}{n i:Nat}(f:Nat->α)(h:i<n):(arr n f)[i]? = some (f i):=by simp[arr,h]
def cO{α:Type}(f:Nat->α)(i:Nat)(v:α):Nat->α:=λk=>if k=i then v else f k
theorem qO{α:Type}(f:Nat->α)(i:Nat)(v:α):cO f i v i=v:=jP rfl
theorem GV{α:Type}(f:Nat->α){i k:Nat}(v:α)(h:k≠i):cO f i v k=f k:=jQ h
theorem uL{α:Type}{n:Nat}{f g:Nat->α}(h:∀ k,k<n->f k=g k):arr n f=arr n g:=by
 unfold arr;exact List.map_congr_left (λk j=>h k (List.mem_range.1 j))
theorem BI{α:Type}(n i:Nat)(f:Nat->α)(v:α):(arr n f).set i v=arr n (cO f i v):=by
 apply List.ext_getElem?;intro k;rw[List.getElem?_set];by_cases hk:k<n
 ·rw[fJ _ hk,aB];by_cases e:i=k
  ·subst e;rw[jP rfl,jP hk,fJ _ hk,qO]
  ·rw[jQ e,fJ _ hk,GV _ _ (λh=>e h.symm)]
 ·have h1:(arr n f)[k]? = none:=List.getElem?_eq_none (by rw[aB];omega);have j:(arr n (cO f i v))[k]? = none:=List.getElem?_eq_none (by rw[aB];omega);rw[h1,j,aB];split
  ·rw[jQ (by omega)]
  ·rfl
theorem KB{α β:Type}(c:α->β)(f:Nat->α)(i:Nat)(v:α):cO (λk=>c (f k)) i (c v)=λk=>c (cO f i v k):=by
 funext k
 unfold cO;split <;> rfl
def c32(f:Nat->Nat):Nat->Value:=λk=>.int .u32 (f k:Nat)
def c8(f:Nat->Nat):Nat->Value:=λk=>.int .u8 (f k:Nat)
theorem KC(f:Nat->Nat)(i v:Nat):cO (c32 f) i (.int .u32 (v:Nat))=c32 (cO f i v):=KB (λx:Nat=>Value.int .u32 (x:Int)) f i v
theorem gY(f:Nat->Nat)(i v:Nat):cO (c8 f) i (.int .u8 (v:Nat))=c8 (cO f i v):=KB (λx:Nat=>Value.int .u8 (x:Int)) f i v
def AB(W:Wd)(g:Nat)(t:TypeId)(n:Nat)(F:Nat->Value):Prop:=Blk W g t (arr n F).toArray
section
variable {W W' : Wd} {g n i : Nat} {t : TypeId} {F G : Nat -> Value}
theorem AB.cell(h:AB W g t n F)(hi:i<n):W.cell? ⟨g,i,none⟩=some (F i):=by
 have:=Blk.cell h i;rw[this,jf];exact fJ F hi
theorem AB.frozen(h:AB W g t n F)(i:Nat):W.frozen? ⟨g,i,none⟩=false:=Blk.frozen h i
theorem AB.set(h:AB W g t n F)(i:Nat)(v:Value):AB (W.setCell ⟨g,i,none⟩ v) g t n (cO F i v):=by
 have:=Blk.set_ h i v;rw[List.setIfInBounds_toArray,BI] at this;exact this
theorem AB.keep(h:AB W g t n F)(hb:Bw W W'):AB W' g t n F:=Blk.keep h hb
theorem AB.far(h:AB W g t n F){p:Addr}(j:g≠p.block)(u:Value):AB (W.setCell p u) g t n F:=Blk.far h j u
theorem AB.ext(h:AB W g t n F)(e:∀ k,k<n->F k=G k):AB W g t n G:=by
 unfold AB at h ⊢;rw[<- uL e];exact h
theorem AB.lt(h:AB W g t n F):g<W.heap.size:=Blk.lt h
theorem AB.range(h:AB W g t n F):W.rangeAt g 0 (arr n F):=by
 have:=Blk.range h
 rwa [jt] at this
theorem AB.new(w:Wd)(t:TypeId)(n:Nat)(F:Nat->Value):AB (w.alloc (.cells (arr n F).toArray t)) w.heap.size t n F:=Blk.new w t _
end
theorem bY{n:Nat}{F:Nat->Value}(h:∀ k,(F k).oneCell'=true):(arr n F).toArray.all (·.oneCell')=true:=by
 refine all_oneCell_toArray (λu j=>?_);unfold arr at j;obtain⟨k,_,rfl⟩:=List.mem_map.1 j;exact h k
theorem aL(n:Nat)(F:Nat->Value):(arr n F).toArray.size=n:=by rw[js,aB]
theorem p0(n:Nat):Array.replicate n false=(List.replicate n false).toArray:=by rw[List.toArray_replicate]
theorem pe(l:Wv)(df:List Deferred)(d:Tmp)(v:Value):(Act.mk l.toArray df).put (some d) v=⟨(l.set d v).toArray,df⟩:=by
 unfold Act.put;simp only[List.setIfInBounds_toArray]
section
variable {P : Program}
theorem eQ{ops:Array Oper}{rest:List Oper}{o:Oper}{a:Act}{w:Wd}{Q:Exit->Act->Wd->Prop}(ty:TypeId)(parts:Array (Nat×Operand))(I:o.op = .build ty parts)(J:Region.wanted o (yielded ops a.tmps)=true)
  {vs:List (Nat×Value)} {cells:Wa} (j:(parts.toList.map fun(i,x)=>(i,a.eval x))=vs) (hb:P.built ty vs=some cells)
  (h:wpList P ops Q rest (a.put o.dst (.agg cells)) w):wpList P ops Q (o :: rest) a w:=
 wpList_step λK D=>by
  rw[jP J];rw[<- Array.toList_map] at j;unfold Oper.wp;have hrun:(execOp a.eval o).run P w = .ok (.value (.agg cells)) w:=by
   unfold execOp;simp only[I,Sem.run_bind,run_build w ty _ cells (by rw[j];exact hb),Result.andThen_ok];rfl
  rw[hrun,Oper.upon_value];exact D _ _ h
end
theorem fD{P:Program}{t e:TypeId}{n:Nat}(cs:Wa)(i:Nat){v:Value}(h:P.underlying t=some (.array n e))(hi:i<n)(hs:∀ w,(sizeOf e).run P w = .ok 1 w)(j:∀ w,(isAgg e).run P w = .ok false w)(x:cs[i]? = some v)(w:Wd):
  (Instr.index t (.agg cs) (.int .i64 (i:Int))).run P w = .ok v w:=by
 simp[Instr.index,run_underlying h,asIntOf,hi,go_sem,hs,part,j,x]
section
variable {P : Program} {ops : Array Oper} {Q : Exit -> Act -> Wd -> Prop} {S : Wd -> Prop} {a : Act} {w : Wd} {listed : Array Bool} {fuel : Nat}
theorem kW(i:Nat)(dst:Option Tmp)(w2:Wd){o:Oper}(x:ops[i]? = some o:=by rfl)(j:o.dst=dst:=by rfl)(I:kOne ops listed a i=true:=by kernel_rfl)
  (hrun:(execOp a.eval o).run P w = .ok .skip w2:=by unfold execOp;go_simp) (hS:S w2:=by assumption)
  (h:wpAnyH P .any ops Q S fuel (listed.setIfInBounds i true) (a.put dst undef) w2):wpAnyH P .any ops Q S (fuel+1) listed a w:=by
 subst j;have k:=kOne.out x I;refine wpAnyH_ready k.1 (by simp) (AllReadyH.cons x (λK D=>?_) jN);rw[jP k.2];unfold Oper.wp;rw[hrun];exact D _ _ hS (λ_=>h)
end
end
section
open Go.RowKit
attribute [local irreducible] wpQuiet wpAnyH
def fP(x n:Nat):Nat:=(x*2 ^ (32-n) % 4294967296) ||| (x/2 ^ n)
theorem eH{x n:Nat}(h:x<4294967296):fP x n<4294967296:=by
 unfold fP;exact Nat.or_lt_two_pow (n:=32) (Nat.mod_lt _ (by omega)) (Nat.lt_of_le_of_lt (Nat.div_le_self _ _) h)
theorem PD(x n:Nat)(w:Wd)(j:x<4294967296)(h1:1<=n)(I:n<=31):
  Wc 287 #[.int .u32 x,.int .i64 (-(n:Int))] w λe w'=>e = .returned (.int .u32 (fP x n))/\w'=w:=by
 have D:bits .and .u64 (IntKind.u64.wrap (-(n:Int))) 31=((32-n:Nat):Int):=by
  have a:IntKind.u64.wrap (-(n:Int))=((18446744073709551616-n:Nat):Int):=by
   simp[IntKind.wrap,IntKind.bits,IntKind.signed];omega
  rw[a];have:=u64_and_nat (18446744073709551616-n) 31 (by omega) (by omega);rw[nat_mask5] at this;refine this.trans ?_;omega
 have e2:bits .or .u32 ((x:Int)*2 ^ (32-n) % 4294967296) ((x:Int)/2 ^ (32-(32-n)))=((fP x n:Nat):Int):=by
  have a:32-(32-n)=n:=by omega
  have h:=u32_or_nat (x*2 ^ (32-n) % 4294967296) (x/2 ^ n) (Nat.mod_lt _ (by omega)) (Nat.lt_of_le_of_lt (Nat.div_le_self _ _) j);rw[a];simp only[Int.natCast_emod,Int.natCast_mul,Int.natCast_pow,Int.natCast_ediv,Int.cast_ofNat_Int] at h;exact h
 go_enter func287,ntmps287
 go_wp2_with fail
 go_ret;refine⟨?_,rfl⟩;rw[<- e2];rfl
theorem iK(x n:Nat)(w:Wd)(O:x<4294967296)(h1:1<=n)(I:n<=31):
  Wc 227 #[.int .u32 x,.int .i64 n] w λe w'=>e = .returned (.int .u32 (fP x n))/\w'=w:=by
 have D:=jz (PD x n w O h1 I);have J:(1:Int)<=n:=by omega
 have K:(n:Int)<=31:=by omega
 go_enter func227,ntmps227
 go_wp2_with fail
 refine D.mono ?_;rintro e w' ⟨rfl,j⟩;rw[j];clear j;go_wp2_with fail
 go_ret;exact⟨rfl,rfl⟩
def bG(b:Nat->Nat):Prop:=∀ k,b k<256
def pw(b:Nat->Nat)(i:Nat):Nat->Nat
 | 0=>0
 | j+1=>pw b i j*256+b (4*i+j)
theorem PE{b:Nat->Nat}(hb:bG b)(i:Nat):∀ j,pw b i j<256 ^ j
 | 0=>Nat.one_pos
 | j+1=>by
  have h1:=PE hb i j;have x:=hb (4*i+j);rw[Nat.pow_succ];show pw b i j*256+b (4*i+j)<_;omega
def sg0(x:Nat):Nat:=(fP x 7 ^^^ fP x 18) ^^^ (x/8)
def sg1(x:Nat):Nat:=(fP x 17 ^^^ fP x 19) ^^^ (x/1024)
theorem pI{a b:Nat}(ha:a<4294967296)(hb:b<4294967296):a ^^^ b<4294967296:=Nat.xor_lt_two_pow (n:=32) ha hb
theorem XY{x:Nat}(h:x<4294967296):sg0 x<4294967296:=pI (pI (eH h) (eH h)) (by omega)
theorem XZ{x:Nat}(h:x<4294967296):sg1 x<4294967296:=pI (pI (eH h) (eH h)) (by omega)
def m32(x:Nat):Nat:=x % 4294967296
theorem vN(x:Nat):m32 x=x % 4294967296:=rfl
theorem BJ(x:Nat):m32 x<4294967296:=Nat.mod_lt _ (by omega)
attribute [irreducible] m32
def wk(b:Nat->Nat)(k:Nat):Nat:=if h:k<16 then pw b k 4 else m32 (m32 (m32 (wk b (k-16)+sg0 (wk b (k-15)))+wk b (k-7))+sg1 (wk b (k-2)))
termination_by k
decreasing_by all_goals omega
theorem KD(b:Nat->Nat){k:Nat}(h:k<16):wk b k=pw b k 4:=by rw[wk,dif_pos h]
theorem KE(b:Nat->Nat){k:Nat}(h:16<=k):wk b k=m32 (m32 (m32 (wk b (k-16)+sg0 (wk b (k-15)))+wk b (k-7))+sg1 (wk b (k-2))):=by rw[wk,dif_neg (by omega)]
theorem KF{b:Nat->Nat}(hb:bG b)(k:Nat):wk b k<4294967296:=by
 by_cases h:k<16
 ·rw[KD b h];exact PE hb k 4
 ·rw[KE b (by omega)];exact BJ _
theorem or32(y c j:Nat)(D:j<=3)(hy:y<256 ^ j)(x:c<256):bits .or .u32 ((y:Int)*256 % 4294967296) ((c:Int) % 4294967296)=((y*256+c:Nat):Int):=by
 have I:y<16777216:=jp hy (by have:=Nat.pow_le_pow_right (n:=256) (by omega) D;exact this);have e:((y:Int)*256 % 4294967296)=((y*256:Nat):Int):=by omega
 have e2:((c:Int) % 4294967296)=(c:Int):=by omega
 rw[e,e2,u32_or_nat (y*256) c (by omega) (by omega),nat_join 8 (y*256) c (by omega) x]
theorem TZ(k c:Nat)(h:c<=k)(j:k<1000000):IntKind.i64.wrap ((k:Int)-c)=(k:Int)-c/\(c:Int)<=k/\(k:Int)-c<1000000/\((k:Int)-c).toNat=k-c:=
 ⟨by simp[IntKind.wrap,IntKind.bits,IntKind.signed];omega,by omega,by omega,by omega⟩
theorem pS(a b:Nat):IntKind.u32.wrap ((a:Int)+b)=((m32 (a+b):Nat):Int):=by
 rw[IntKind.wrap_u32',vN];omega
structure SC(w0 W:Wd)(g:Nat)(b:Nat->Nat)(f:Nat->Nat):Prop where
 be:Bw w0 W
 lo:w0.heap.size<=g
 p:AB W g 243 64 (c8 b)
 r:AB W (g+1) 255 64 (c32 λ_=>0)
 v:AB W (g+1+1) 255 64 (c32 f)
theorem SC.set{w0 W:Wd}{g:Nat}{b f:Nat->Nat}(h:SC w0 W g b f)(i v:Nat):SC w0 (W.setCell ⟨g+1+1,i,none⟩ (.int .u32 (v:Nat))) g b (cO f i v):=
 ⟨h.be.setCell (by have:=h.lo;show w0.heap.size<=g+1+1;omega) _,h.lo,h.p.far (by show g≠g+1+1;omega) _,h.r.far (by show g+1≠g+1+1;omega) _,by have:=h.v.set i (.int .u32 (v:Nat));rwa [KC] at this⟩
theorem PF{α:Type}{f:Nat->α}{i:Nat}{v:α}(h:f i=v):cO f i v=f:=by
 funext k
 unfold cO;split
 ·rename_i e;rw[e,h]
 ·rfl
theorem T4{α:Type}(f:Nat->α)(i:Nat)(u v:α):cO (cO f i u) i v=cO f i v:=by
 funext k
 unfold cO;split <;> rfl
theorem SC.drew{w0 W:Wd}{g:Nat}{b f:Nat->Nat}(h:SC w0 W g b f):SC w0 W.drew g b f:=⟨h.be.drew,h.lo,h.p,h.r,h.v⟩
theorem SC.fn{w0 W:Wd}{g:Nat}{b f f':Nat->Nat}(h:SC w0 W g b f)(e:f=f'):SC w0 W g b f':=e ▸ h
def z32x64:Wa:=(arr 64 (c32 λ_=>0)).toArray
theorem zD:∀ w,(zeroValue 255).run prog w = .ok (.agg z32x64) w:=λw=>by unfold z32x64;kernel_rfl
theorem BK(b:Nat->Nat)(w:Wd)(hb:bG b):
  Wc 226 #[.agg (arr 64 (c8 b)).toArray] w (Rt w (.agg (arr 64 (c32 (wk b))).toArray)):=by
 have O:=jz hb;clear hb;go_enter func226,ntmps226
 go_upto_region 2 with (refine al 255 _ rfl rfl zD ?_)
 obtain⟨g,hg⟩:=je w.heap.size;obtain⟨w1,a8⟩:=je (((w.alloc (.cells (arr 64 (c8 b)).toArray 243)).alloc (.cells z32x64 255)).alloc (.cells z32x64 255));have d0:Hid (SC w w1 g b (λ_=>0)):=jz (by
  rw[a8,hg]
  exact⟨(((ji _ w).alloc (ja _) _).alloc (by simp) _).alloc (by simp;omega) _,ja _,((Blk.new w _ _).alloc _).alloc _,(Blk.newAt _ _ _ _ (by simp)).alloc _,Blk.newAt _ _ _ _ (by simp)⟩)
 rw[<- a8];simp only[World.size_alloc,<- hg];clear a8 hg;go_wp2_with fail
 go_loopw [12] (λi wr=>∃ k:Nat,k<=16/\i = .int .i64 (k:Int)/\Hid (SC w wr g b (λq=>if q<k then pw b q 4 else 0))) (λi _=>16-(intOf i).toNat)
 case atStart=>exact⟨0,j0 _,rfl,jz (by have:=d0.out;simpa using this)⟩
 case round=>
  obtain⟨k,hk,rfl,D⟩:=hrel;rcases jo k 16 with f3|f2
  ·have h8:(0:Int)<=k:=by omega
   have h9:(k:Int)<16:=by omega
   have h5:prog.arrayLen 243=64:=by kernel_rfl
   have h0:(0:Int)<=4*k:=by omega
   have h3:4*(k:Int)<=4*k+4:=by omega
   have h4:4*(k:Int)+4<=64:=by omega
   go_wp2_with fail
   rw[show 4*k+4-4*k=4 from by omega];have c7:Hid (SC w wr g b (cO (λq=>if q<k then pw b q 4 else 0) k (pw b k 0))):=jz (by rw[PF (by rw[jQ (by omega)];rfl)];exact D);clear h5 h0 h3 h4 D;go_loopw [22] (λi wr=>∃ j:Nat,j<=4/\i = .int .i64 (j:Int)/\Hid (SC w wr g b (cO (λq=>if q<k then pw b q 4 else 0) k (pw b k j)))) (λi _=>4-(intOf i).toNat)
   case atStart=>exact⟨0,j0 _,rfl,c7⟩
   case round=>
    clear c7;obtain⟨j,hj,rfl,D⟩:=hrel;rcases jo j 4 with n3|k3
    ·have n1:(0:Int)<=j:=by omega
     have n2:(j:Int)<4:=by omega
     have h6:wr.cell? ⟨g,4*k+j,none⟩=some (.int .u8 (b (4*k+j):Nat)):=D.p.cell (by omega);have f0:=D.v.cell (i:=k) (by omega);have n0:=D.v.frozen k;have I:=jz (D.set k (pw b k j*256+b (4*k+j)));have f5:=or32 (pw b k j) (b (4*k+j)) j (by omega) (PE O k j) (O _);rw[show c32 (cO (λq=>if q<k then pw b q 4 else 0) k (pw b k j)) k = .int .u32 (pw b k j:Nat) from by unfold c32;rw[qO]] at f0;obtain⟨y,hy⟩:=je (pw b k j);obtain⟨c,a6⟩:=je (b (4*k+j));rw[<- hy] at f0 f5 I;rw[<- a6] at h6 f5 I;have HY:=jz (And.intro hy a6);rw[show((y*256+c:Nat):Int)=(y:Int)*256+c from by omega] at I;clear hy a6 D;go_wp2_with fail
     exact⟨⟨j+1,by omega,by go_num,jz (I.fn (by rw[HY.out.1,HY.out.2,T4];rfl))⟩,by simp[intOf];omega⟩
    ·obtain rfl:j=4:=by omega
     have g2:Hid (SC w wr g b (λq=>if q<k+1 then pw b q 4 else 0)):=jz (D.fn (by
      funext q
      show(if q=k then _ else (if q<k then pw b q 4 else 0))=(if q<k+1 then pw b q 4 else 0)
      by_cases e:q=k
      ·subst e;rw[jP rfl,jP (by omega)]
      ·rw[jQ e]
       by_cases e2:q<k
       ·rw[jP e2,jP (by omega)]
       ·rw[jQ e2,jQ (by omega)]))
     clear D;go_wp2_with fail
     exact⟨⟨k+1,by omega,by go_num,g2⟩,by simp[intOf];omega⟩
  ·have k4:¬(k:Int)<16:=by omega
   have c9:Hid (SC w wr g b (λq=>if q<16 then wk b q else 0)):=jz (D.fn (by
    have g8:k=16:=by omega
    subst g8
    funext q
    split
    ·rename_i e;exact(KD b e).symm
    ·rfl))
   clear D d0 hk f2;go_wp2_with fail
   go_loopw [7] (λi wr=>∃ k:Nat,16<=k/\k<=64/\i = .int .i64 (k:Int)/\Hid (SC w wr g b (λq=>if q<k then wk b q else 0))) (λi _=>64-(intOf i).toNat)
   case atStart=>exact⟨16,ja _,by omega,rfl,c9⟩
   case round=>
    clear c9;obtain⟨k,k0,hk,rfl,D⟩:=hrel;rcases jo k 64 with f3|f2
    ·have h8:(16:Int)<=k:=by omega
     have h9:(k:Int)<64:=by omega
     have hW:=KE b k0;have Z:=KF O (k-15);have l2:=KF O (k-2);have l7:=KF O (k-7);have f7:=KF O (k-16);have K:∀ W,SC w W g b (λq=>if q<k then wk b q else 0)->∀ q,q<k->W.cell? ⟨g+1+1,q,none⟩=some (.int .u32 (wk b q:Nat)):=λW U q hq=>by
      have:=U.v.cell (i:=q) (by omega);rw[this];show some (Value.int .u32 ((if q<k then wk b q else 0:Nat):Int))=_;rw[jP hq]
     obtain⟨q0,m2,m4,n4⟩:IntKind.i64.wrap ((k:Int)-15)=(k:Int)-15/\(15:Int)<=k/\(k:Int)-15<1000000/\((k:Int)-15).toNat=k-15:=TZ k 15 (by omega) (by omega);have m6:(k:Int)-15<64:=by omega
     obtain⟨w2,a2,b2,t2⟩:IntKind.i64.wrap ((k:Int)-2)=(k:Int)-2/\(2:Int)<=k/\(k:Int)-2<1000000/\((k:Int)-2).toNat=k-2:=TZ k 2 (by omega) (by omega);have d2:(k:Int)-2<64:=by omega
     obtain⟨q4,m3,m5,n6⟩:IntKind.i64.wrap ((k:Int)-16)=(k:Int)-16/\(16:Int)<=k/\(k:Int)-16<1000000/\((k:Int)-16).toNat=k-16:=TZ k 16 (by omega) (by omega);have m8:(k:Int)-16<64:=by omega
     obtain⟨w7,a7,b7,t7⟩:IntKind.i64.wrap ((k:Int)-7)=(k:Int)-7/\(7:Int)<=k/\(k:Int)-7<1000000/\((k:Int)-7).toNat=k-7:=TZ k 7 (by omega) (by omega);have d7:(k:Int)-7<64:=by omega
     go_upto_region 14 with fail
     refine kZ (n:=10) (λW=>SC w W g b (λq=>if q<k then wk b q else 0)) (D.drew) (h:=λhH=>?_);refine qM 0 (.int .i64 k) ?_;refine qT 1 (.int .i64 ((k:Int)-15)) ?_;refine qT 2 (.pointer (some ⟨g+1+1,k-15,none⟩)) ?_;refine qC 3 (v:=.int .u32 (wk b (k-15):Nat)) (λW U=>K W U (k-15) (by omega)) ?_;refine qM 4 (.int .i64 k) ?_;refine qT 5 (.int .i64 ((k:Int)-2)) ?_;refine qT 6 (.pointer (some ⟨g+1+1,k-2,none⟩)) ?_;refine qC 7 (v:=.int .u32 (wk b (k-2):Nat)) (λW U=>K W U (k-2) (by omega)) ?_;refine qT 8 (.int .u32 (wk b (k-15):Nat)) ?_;refine qT 9 (.int .u32 (wk b (k-2):Nat)) ?_;refine kE (h:=?_);have r7:=eH (n:=7) Z;have b1:=eH (n:=18) Z;have b0:=eH (n:=17) l2;have c2:=eH (n:=19) l2;have e1:=u32_xor_nat _ _ r7 b1;have e2:=u32_xor_nat (fP (wk b (k-15)) 7 ^^^ fP (wk b (k-15)) 18) (wk b (k-15)/8) (pI r7 b1) (by omega);have e3:=u32_xor_nat _ _ b0 c2;have e4:=u32_xor_nat (fP (wk b (k-2)) 17 ^^^ fP (wk b (k-2)) 19) (wk b (k-2)/1024) (pI b0 c2) (by omega);simp only[Int.natCast_ediv,Int.cast_ofNat_Int] at e2 e4;obtain⟨s0,a1⟩:=je (sg0 (wk b (k-15)));obtain⟨s1,J⟩:=je (sg1 (wk b (k-2)));have l0:s0<4294967296:=by rw[a1];exact XY Z
     have l1:s1<4294967296:=by rw[J];exact XZ l2
     rw[show(fP (wk b (k-15)) 7 ^^^ fP (wk b (k-15)) 18) ^^^ wk b (k-15)/8=s0 from a1.symm] at e2;rw[show(fP (wk b (k-2)) 17 ^^^ fP (wk b (k-2)) 19) ^^^ wk b (k-2)/1024=s1 from J.symm] at e4;rw[<- a1,<- J] at hW;have c3:=jz (λW=>iK (wk b (k-15)) 7 W Z (by omega) (by omega));have c4:=jz (λW=>iK (wk b (k-15)) 18 W Z (by omega) (by omega));have c5:=jz (λW=>iK (wk b (k-2)) 17 W l2 (by omega) (by omega));have c6:=jz (λW=>iK (wk b (k-2)) 19 W l2 (by omega) (by omega));have HW:=jz hW;have HG:=jz K;have HL:=jz (And.intro l7 f7);clear a1 J r7 b1 b0 c2 hW K l7 f7 hH;go_wp2_with fail
     refine(c3 _).mono ?_;rintro e w2 ⟨rfl,x⟩;rw[x];clear x w2;go_wp2_with fail
     refine(c4 _).mono ?_;rintro e w2 ⟨rfl,x⟩;rw[x];clear x w2;go_wp2_with fail
     refine(c5 _).mono ?_;rintro e w2 ⟨rfl,x⟩;rw[x];clear x w2;go_wp2_with fail
     refine(c6 _).mono ?_;rintro e w2 ⟨rfl,x⟩;rw[x];clear x w2;go_upto_region 17 with fail
     clear e1 e2 e3 e4 c3 c4 c5 c6;obtain⟨wS,a3⟩:=je wr.drew.drew;have R:Hid (SC w wS g b (λq=>if q<k then wk b q else 0)):=jz (by rw[a3];exact D.drew.drew);have d1:Hid (∃ f,SC w wS g b f/\∀ q,q<k->f q=wk b q):=jz ⟨_,R,λq hq=>by show(if q<k then wk b q else 0)=_;rw[jP hq]⟩;have V:∀ W,(∃ f,SC w W g b f/\∀ q,q<k->f q=wk b q)->∀ q,q<k->W.cell? ⟨g+1+1,q,none⟩=some (.int .u32 (wk b q:Nat)):=λW U q hq=>by
      obtain⟨f,h1,h2⟩:=U;have:=h1.v.cell (i:=q) (by omega);rw[this];show some (Value.int .u32 (f q:Nat))=_;rw[h2 q hq]
     have f1:=R.v.cell (i:=k) f3;have h7:=R.v.frozen k;have hz:c32 (λq=>if q<k then wk b q else 0) k = .int .u32 0:=by
      show Value.int .u32 ((if k<k then wk b k else 0:Nat):Int)=_;rw[jQ (Nat.lt_irrefl k)];rfl
     rw[hz] at f1;have e0:=R.set k (wk b k);obtain⟨A1,a4⟩:=je (m32 (wk b (k-16)+s0));obtain⟨A2,a5⟩:=je (m32 (A1+wk b (k-7)));have q1:=pS (wk b (k-16)) s0;have q2:=pS A1 (wk b (k-7));have q3:=pS A2 s1;rw[<- a4] at q1;rw[<- a5] at q2;rw[show m32 (A2+s1)=wk b k from by rw[HW.out,a5,a4]] at q3;have I:=jz e0;clear e0 hz a4 a5;refine kZ (n:=16) (λW=>∃ f,SC w W g b f/\∀ q,q<k->f q=wk b q) (by rw[<- a3];exact d1) (h:=λhH=>?_);rw[<- a3] at hH ⊢;clear a3;refine qM 0 (.int .i64 k) ?_;refine qM 1 (.int .i64 k) ?_;refine qT 2 (.int .i64 ((k:Int)-16)) ?_;refine qT 3 (.pointer (some ⟨g+1+1,k-16,none⟩)) ?_;refine qC 4 (v:=.int .u32 (wk b (k-16):Nat)) (λW U=>V W U (k-16) (by omega)) ?_;refine qM 5 (.int .u32 (s0:Nat)) ?_;refine qT 6 (.int .u32 (A1:Nat)) ?_;refine qM 7 (.int .i64 k) ?_;refine qT 8 (.int .i64 ((k:Int)-7)) ?_;refine qT 9 (.pointer (some ⟨g+1+1,k-7,none⟩)) ?_;refine qC 10 (v:=.int .u32 (wk b (k-7):Nat)) (λW U=>V W U (k-7) (by omega)) ?_;refine qT 11 (.int .u32 (A2:Nat)) ?_;refine qM 12 (.int .u32 (s1:Nat)) ?_;refine qT 13 (.int .u32 (wk b k:Nat)) ?_;refine qT 14 (.pointer (some ⟨g+1+1,k,none⟩)) ?_;refine kW 15 none (wS.setCell ⟨g+1+1,k,none⟩ (.int .u32 (wk b k:Nat))) (hS:=⟨_,I,λq hq=>by show cO (λq=>if q<k then wk b q else 0) k (wk b k) q=_;rw[GV _ _ (by omega),jP hq]⟩) (h:=?_);simp only[jq];refine kE (h:=?_);obtain⟨wz,a9⟩:=je (wS.setCell ⟨g+1+1,k,none⟩ (.int .u32 (wk b k:Nat)));have g3:Hid (SC w wz g b (λq=>if q<k+1 then wk b q else 0)):=jz (by
      rw[a9]
      refine I.fn ?_
      funext q
      show(if q=k then _ else (if q<k then wk b q else 0))=(if q<k+1 then wk b q else 0)
      by_cases e:q=k
      ·subst e;rw[jP rfl,jP (by omega)]
      ·rw[jQ e]
       by_cases e2:q<k
       ·rw[jP e2,jP (by omega)]
       ·rw[jQ e2,jQ (by omega)])
     rw[<- a9];clear a9 I d1 R f1 h7 D hH;go_wp2_with fail
     exact⟨⟨k+1,by omega,by omega,by go_num,g3⟩,by simp[intOf];omega⟩
    ·have m9:k=64:=by omega
     have a0:Hid (SC w wr g b (wk b)):=jz ⟨D.be,D.lo,D.p,D.r,D.v.ext (λq hq=>by
      show Value.int .u32 ((if q<k then wk b q else 0:Nat):Int) = .int .u32 (wk b q:Nat)
      rw[jP (by omega)])⟩
     have m1:¬(k:Int)<64:=by omega
     clear D;have f6:=a0.v.range;have hI:(prog.info? 255).map (·.size)=some (arr 64 (c32 (wk b))).length:=by rw[aB];kernel_rfl
     obtain⟨L,hL⟩:=je (arr 64 (c32 (wk b)));rw[<- hL] at f6 hI;have J:(prog.info? 255).map (·.size)=some L.toArray.size:=by rw[js];exact hI
     have k1:z32x64.size=L.toArray.size:=by rw[hL,aL];exact aL 64 _
     have k2:L.toArray.all (·.oneCell')=true:=by rw[hL];exact bY (λ_=>rfl)
     have f9:Blk wr (g+1) 255 z32x64:=a0.r;have g1:=jz hL;clear hL;go_wp2_with (first
      | (refine ld 255 _ rfl rfl rfl f6 underlying255 rfl hI ?_)
      | (refine aP 255 (.tmp 2) (.tmp 80) rfl rfl rfl rfl f9 J k1 k2 ?_;intro w3 d5 e8 _ _;have f8:=jz d5;have g0:=jz e8;clear d5 e8))
     exact bodyPost_ret (results_cell_row rfl _ _ (g+1) 255 _ (0,0) _ rfl f8 underlying255 rfl J) rfl ⟨by rw[<- g1.out],a0.be.trans (g0.mono (by have:=a0.lo;omega))⟩
  done
end
end Go.Proofs.YtiaigidbcljblaaGreatDoor
