import Derived.Test.YtjjlaipkkdncfaaGreatDoorMV3
import Derived.Deep.DeepCutAuto
import Derived.Laws.BitsAllLaws
import Derived.Test.YtjjlaipkkdncfaaGreatDoorMV4
set_option linter.unusedVariables false
set_option linter.unusedSimpArgs false
set_option maxRecDepth 100000
set_option maxHeartbeats 40000000
namespace Go.Proofs.YtjjlaipkkdncfaaGreatDoor
open Go.Proofs.Tryz
section
open Go.RowKit
section
variable {F : Fence} {n : Nat} {P : Program} {ops : Array Oper} {rest : List Oper} {o : Oper} {a : Act} {w : Wd} {Q : Exit -> Act -> Wd -> Prop}
theorem QN{v:Value}{w':Wd}(D:∀ f,F.fn f)(hs:∀ ρ,o.semAt F.round ρ=execOp ρ o)(J:Region.wanted o (yielded ops a.tmps)=true)(hrun:(execOp a.eval o).run P w = .ok (.value v) w')
  (h:wpListIn F n P ops Q rest (a.put o.dst v) w'):wpListIn F n P ops Q (o :: rest) a w:=
 wpListIn_step λK I=>by
  rw[jP J];refine⟨λf _=>D f,?_⟩;rw[hs,hrun];exact I _ _ h
theorem V0{w':Wd}(D:∀ f,F.fn f)(hs:∀ ρ,o.semAt F.round ρ=execOp ρ o)(J:Region.wanted o (yielded ops a.tmps)=true)(hrun:(execOp a.eval o).run P w = .ok .skip w')
  (h:wpListIn F n P ops Q rest (a.put o.dst undef) w'):wpListIn F n P ops Q (o :: rest) a w:=
 wpListIn_step λK I=>by
  rw[jP J];refine⟨λf _=>D f,?_⟩;rw[hs,hrun];exact I _ _ h
theorem iLd(ty:TypeId)(x:Operand)(D:o.op = .load ty x)(I:∀ f,F.fn f)(O:Region.wanted o (yielded ops a.tmps)=true)
  {b off:Nat} (R:a.eval x = .pointer (some ⟨b,off,none⟩)) {cs:Wv} {d:TypeDesc} (J:w.rangeAt b off cs)
  (K:P.underlying ty=some d) (hd:d.isRow=true) (hi:(P.info? ty).map (·.size)=some cs.length)
  (h:wpListIn F n P ops Q rest (a.put o.dst (.agg cs.toArray)) w):wpListIn F n P ops Q (o :: rest) a w:=by
 refine QN I (fun ρ=>Oper.semAt_eq _ _ _ (λc=>by rw[D];exact λe=>by cases e)) O ?_ h;unfold execOp;simp only[D,R,Instr.loadAt,Instr.sureAddr,Sem.run_bind,Sem.run_pure,Result.andThen_ok,run_loadVar_mid w b off ty cs d J K hd hi]
theorem iSt(ty:TypeId)(x y:Operand)(O:o.op = .store ty x y)(R:∀ f,F.fn f)(U:Region.wanted o (yielded ops a.tmps)=true)
  {g t:Nat} {old cells:Wa} (V:a.eval x = .pointer (some ⟨g,0,none⟩)) (hy:a.eval y = .agg cells) (K:Blk w g t old)
  (hi:(P.info? ty).map (·.size)=some cells.size) (I:old.size=cells.size) (h1:cells.all (·.oneCell')=true)
  (h:∀ J,Blk J g t cells->Below g w J->(∀ D,D≠g->J.heap[D]? = w.heap[D]?)->J.heap.size=w.heap.size->wpListIn F n P ops Q rest (a.put o.dst undef) J):
  wpListIn F n P ops Q (o :: rest) a w:=by
 refine V0 (w':=w.setRow g cells) R (fun ρ=>Oper.semAt_eq _ _ _ (λc=>by rw[O];exact λe=>by cases e)) U ?_ ?_
 ·unfold execOp;simp only[O,V,hy,Instr.storeAt,Instr.sureAddr,Sem.run_bind,Sem.run_pure,Result.andThen_ok,run_storeVar_row w g t ty old cells K hi I h1]
 ·exact h _ (setRow_heap w g old cells t (0,0) K) ⟨rfl,rfl,rfl,by simp,λk Z=>setRow_other w g k cells (by omega)⟩ (λD hg=>setRow_other w g D cells hg) (by simp)
theorem uC(ty:TypeId)(x y:Operand)(I:o.op = .store ty x y)(K:∀ f,F.fn f)
  {old cells:Wa} {t:TypeId} (O:Region.wanted o (yielded ops a.tmps)=true) (R:a.eval x = .pointer (some ⟨w.heap.size,0,none⟩)) (hy:a.eval y = .agg cells)
  (hi:(P.info? ty).map (·.size)=some cells.size) (D:old.size=cells.size) (h1:cells.all (·.oneCell')=true)
  (h:∀ J,J=w.alloc (.cells cells t)->wpListIn F n P ops Q rest (a.put o.dst undef) J):wpListIn F n P ops Q (o :: rest) a (w.alloc (.cells old t)):=by
 refine V0 (w':=w.alloc (.cells cells t)) K (fun ρ=>Oper.semAt_eq _ _ _ (λc=>by rw[I];exact λe=>by cases e)) O ?_ (h _ rfl);unfold execOp;simp only[I,R,hy,Instr.storeAt,Instr.sureAddr,Sem.run_bind,Sem.run_pure,Result.andThen_ok,run_storeVar_row (w.alloc (.cells old t)) w.heap.size t ty old cells (heap_alloc_new w _) hi D h1];rw[oV]
theorem iAl(ty:TypeId)(zs:Wa)(D:o.op = .alloc ty)(I:∀ f,F.fn f)(J:Region.wanted o (yielded ops a.tmps)=true)(K:∀ w,(zeroValue ty).run P w = .ok (.agg zs) w)
  (h:wpListIn F n P ops Q rest (a.put o.dst (.pointer (some ⟨w.heap.size,0,none⟩))) (w.alloc (.cells zs ty))):wpListIn F n P ops Q (o :: rest) a w:=by
 refine QN (v:=.pointer (some ⟨w.heap.size,0,none⟩)) (w':=w.alloc (.cells zs ty)) I (fun ρ=>Oper.semAt_eq _ _ _ (λc=>by rw[D];exact λe=>by cases e)) J ?_ h;unfold execOp;simp only[D];unfold Instr.alloc newVar newRow;simp[Sem.run_bind,K,Value.cells]
theorem WQ{t e s bytes:Nat}(T:SlT P t e s bytes)(p q:Operand)(hF:∀ f,F.fn f)
  (U:o.op = .call { callee:=.builtin .append,args:=#[p,q],argTypes:=#[t,t] }) (hw:Region.wanted o (yielded ops a.tmps)=true)
  {base k m:Nat} {v x:Value} {V D:Wv} (hv:a.eval p=v) (K:w.ownsRow base e s v k V) (R:a.eval q=x) (hx:Sn w s x m D)
  (h1:∀ u∈D,u.oneCell'=true) (O:k+m<=maxLen) (I:(k+m)*bytes<=140737488355328) (J:base<=w.heap.size)
  (h:∀ v' w',w'.ownsRow base e s v' (k+m) (V++D)->w.grownBy w' v.ownBlock->(v'.ownBlock=v.ownBlock\/v'.ownBlock=some w.heap.size)->wpListIn F n P ops Q rest (a.put o.dst v') w'):
  wpListIn F n P ops Q (o :: rest) a w:=by
 obtain⟨v',w',hrun,Z,h3,h4⟩:=gL (ty:=o.type) T K hx h1 O I J;refine QN (v:=v') (w':=w') hF (fun ρ=>Oper.semAt_eq _ _ _ (λc=>by rw[U];exact λe=>by cases e)) hw ?_ (h v' w' Z h3 h4);unfold execOp;simp only[U,resolve,invoke,builtin,Sem.run_bind,Sem.run_pure,Result.andThen_ok,List.map_toArray,List.map_cons,List.map_nil,hv,R,hrun]
end
theorem y6(f:FuncId):Fence.wide.fn f:=trivial
theorem cU(l:Nat)(f:FuncId):(Fence.wide.inRound l).fn f:=trivial
theorem inR{P:Program}{n:Nat}{f:FuncId}{args:Wa}{w:Wd}{R:Ending->Wd->Prop}(l:Nat)(h:Calls P f args w R):CallsIn (Fence.wide.inRound l) n P f args w R:=CallsIn.inRound l (callsIn_wide.2 h)
theorem rQ{P:Program}{f:FuncId}{fn:Func}{c:Code}{args:Wa}{w:Wd}{R:Ending->Wd->Prop}(D:P.funcs[f]? = some fn)(hb:fn.body=some c)
  (h:c.wpIn Fence.wide 9 P (bodyPostM Fence.wide 9 P fn R) { tmps:=args++Array.replicate (fn.ntmps-args.size) undef,defers:=[] } w):Calls P f args w R:=
 callsIn_wide.1 (callsIn_of_wp_marks D hb trivial h)
end
section
open Go.RowKit
section
variable {P : Program} {ops : Array Oper} {Q : Exit -> Act -> Wd -> Prop} {S : Wd -> Prop} {a : Act} {w : Wd} {listed : Array Bool} {fuel : Nat}
theorem p1(a:Act)(t:Tmp)(v:Value):a.put (some t) v={ a with tmps:=a.tmps.setIfInBounds t v }:=rfl
theorem p5(a:Act)(v:Value):a.put none v=a:=rfl
theorem p2{α:Type}(l:List α)(i:Nat)(v:α):l.toArray.setIfInBounds i v=(l.set i v).toArray:=List.setIfInBounds_toArray ..
theorem p3{α:Type}(x v:α)(l:List α):(x :: l).set 0 v=v :: l:=rfl
theorem p4{α:Type}(x v:α)(l:List α)(n:Nat):(x :: l).set (n+1) v=x :: l.set n v:=rfl
def kOk(ops:Array Oper)(listed:Array Bool)(a:Act)(i:Nat)(want:Bool):Bool:=
 Region.noSelect ops && Region.free .any ops listed i && (Region.ready .any ops listed).contains i && ((ops[i]?).map (λo=>Region.wanted o (yielded ops a.tmps))).any (· == want)
theorem kOk.out{i:Nat}{b:Bool}{o:Oper}(D:ops[i]? = some o)(h:kOk ops listed a i b=true):Region.noSelect ops=true/\Region.free .any ops listed i=true/\(Region.ready .any ops listed).contains i=true/\Region.wanted o (yielded ops a.tmps)=b:=by
 unfold kOk at h;simp only[Bool.and_eq_true,D,Option.map_some,Option.any_some,beq_iff_eq] at h;exact⟨h.1.1.1,h.1.1.2,h.1.2,h.2⟩
theorem kT(i:Nat)(dst:Option Tmp)(v:Value){o:Oper}(I:ops[i]? = some o:=by rfl)(D:o.dst=dst:=by rfl)(K:kOk ops listed a i true=true:=by kernel_rfl)
  (hy:∀ w,S w->(execOp a.eval o).run P w = .ok (.value v) w:=by intro w hS;unfold execOp;go_simp)
  (J:∀ c a w,Q (.panic c) (a.put dst v) w->Q (.panic c) a w:=by exact λ_ _ _ h=>h) (hS:S w:=by assumption)
  (h:wpAnyH P .any ops Q S fuel (listed.setIfInBounds i true) (a.put dst v) w):wpAnyH P .any ops Q S (fuel+1) listed a w:=by
 subst D;exact
  have k:=kOk.out I K
  wpAnyH_take I k.1 k.2.1 k.2.2.1 J (.inl ⟨k.2.2.2,hy⟩) hS h
theorem kX(i:Nat)(dst:Option Tmp){o:Oper}(I:ops[i]? = some o:=by rfl)(D:o.dst=dst:=by rfl)(K:kOk ops listed a i false=true:=by kernel_rfl)
  (J:∀ c a w,Q (.panic c) (a.put dst undef) w->Q (.panic c) a w:=by exact λ_ _ _ h=>h) (hS:S w:=by assumption)
  (h:wpAnyH P .any ops Q S fuel (listed.setIfInBounds i true) (a.put dst undef) w):wpAnyH P .any ops Q S (fuel+1) listed a w:=by
 subst D;exact
  have k:=kOk.out I K
  wpAnyH_take I k.1 k.2.1 k.2.2.1 J (.inr ⟨k.2.2.2,rfl⟩) hS h
theorem kM(i:Nat)(dst:Option Tmp)(v:Value){o:Oper}{x:Operand}(J:ops[i]? = some o:=by rfl)(D:o.dst=dst:=by rfl)(I:o.op = .move x:=by rfl)(R:a.eval x=v:=by kernel_rfl)(O:kOk ops listed a i true=true:=by kernel_rfl)
  (K:∀ c a' w,Q (.panic c) (a'.put dst v) w->Q (.panic c) a' w:=by exact λ_ _ _ h=>h) (hS:S w:=by assumption)
  (h:wpAnyH P .any ops Q S fuel (listed.setIfInBounds i true) (a.put dst v) w):wpAnyH P .any ops Q S (fuel+1) listed a w:=by
 subst D;exact
  have k:=kOk.out J O
  wpAnyH_take J k.1 k.2.1 k.2.2.1 K (.inl ⟨k.2.2.2,λw _=>by unfold execOp;simp only[I,R,Sem.run_pure]⟩) hS h
theorem qG(w:Wd)(J:Addr)(ty:TypeId)(v:Value)(I:((P.underlying ty).map (·.isRow))=some false)(K:w.cell? J=some v):(loadVar ty J).run P w = .ok v w:=by
 cases hd:P.underlying ty with
 | none=>rw[hd] at I;cases I
 | some d=>
  rw[hd] at I;have D:(isAgg ty).run P w = .ok false w:=by
   unfold isAgg;rw[Sem.run_bind,run_underlying hd w];cases d <;> simp_all
  simp[loadVar,Sem.run_bind,D,K]
theorem kC(i:Nat)(dst:Option Tmp){v:Value}{I:Addr}(V:∀ w,S w->w.cell? I=some v){o:Oper}{ty:TypeId}{x:Operand}(K:ops[i]? = some o:=by rfl)(D:o.dst=dst:=by rfl)(J:o.op = .load ty x:=by rfl)(hx:a.eval x = .pointer (some I):=by kernel_rfl)(U:((P.underlying ty).map (·.isRow))=some false:=by kernel_rfl)(R:kOk ops listed a i true=true:=by kernel_rfl)
  (O:∀ c a w,Q (.panic c) (a.put dst v) w->Q (.panic c) a w:=by exact λ_ _ _ h=>h) (hS:S w:=by assumption)
  (h:wpAnyH P .any ops Q S fuel (listed.setIfInBounds i true) (a.put dst v) w):wpAnyH P .any ops Q S (fuel+1) listed a w:=by
 subst D;exact
  have k:=kOk.out K R
  wpAnyH_take K k.1 k.2.1 k.2.2.1 O (.inl ⟨k.2.2.2,λw Z=>by
   unfold execOp
   simp only[J,hx,Instr.loadAt,Instr.sureAddr,Sem.run_bind,Sem.run_pure,Result.andThen_ok,qG w I ty v U (V w Z)]⟩) hS h
theorem kL(i:Nat)(dst:Option Tmp){cs:Wv}{b off n:Nat}(V:∀ w,S w->w.rangeAt b off cs)(U:cs.length=n){o:Oper}{ty:TypeId}{x:Operand}(K:ops[i]? = some o:=by rfl)(D:o.dst=dst:=by rfl)(J:o.op = .load ty x:=by rfl)(hx:a.eval x = .pointer (some ⟨b,off,none⟩):=by kernel_rfl)(I:((P.underlying ty).map (·.isRow))=some true:=by kernel_rfl)(hi:(P.info? ty).map (·.size)=some n:=by kernel_rfl)(R:kOk ops listed a i true=true:=by kernel_rfl)
  (O:∀ c a w,Q (.panic c) (a.put dst (.agg cs.toArray)) w->Q (.panic c) a w:=by exact λ_ _ _ h=>h) (hS:S w:=by assumption)
  (h:wpAnyH P .any ops Q S fuel (listed.setIfInBounds i true) (a.put dst (.agg cs.toArray)) w):wpAnyH P .any ops Q S (fuel+1) listed a w:=by
 subst D;have k:=kOk.out K R;cases hd:P.underlying ty with
 | none=>rw[hd] at I;cases I
 | some d=>
  rw[hd] at I;exact wpAnyH_take K k.1 k.2.1 k.2.2.1 O (.inl ⟨k.2.2.2,λw Z=>by
   unfold execOp
   simp only[J,hx,Instr.loadAt,Instr.sureAddr,Sem.run_bind,Sem.run_pure,Result.andThen_ok,run_loadVar_mid w b off ty cs d (V w Z) hd (by simpa using I) (by rw[U];exact hi)]⟩) hS h
theorem kB(i:Nat)(dst:Option Tmp){vs:List (Nat×Value)}{cells:Wa}{t:TypeId}(hb:P.built t vs=some cells){o:Oper}{parts:Array (Nat×Operand)}(J:ops[i]? = some o:=by rfl)(D:o.dst=dst:=by rfl)(I:o.op = .build t parts:=by rfl)(K:(parts.toList.map fun(i,x)=>(i,a.eval x))=vs:=by rfl)(R:kOk ops listed a i true=true:=by kernel_rfl)
  (O:∀ c a w,Q (.panic c) (a.put dst (.agg cells)) w->Q (.panic c) a w:=by exact λ_ _ _ h=>h) (hS:S w:=by assumption)
  (h:wpAnyH P .any ops Q S fuel (listed.setIfInBounds i true) (a.put dst (.agg cells)) w):wpAnyH P .any ops Q S (fuel+1) listed a w:=by
 subst D;exact
  have k:=kOk.out J R
  wpAnyH_take J k.1 k.2.1 k.2.2.1 O (.inl ⟨k.2.2.2,λw U=>by
   rw[<- Array.toList_map] at K
   unfold execOp
   simp only[I,Sem.run_bind,run_build w t _ cells (by rw[K];exact hb),Result.andThen_ok]
   rfl⟩) hS h
def kOne(ops:Array Oper)(listed:Array Bool)(a:Act)(i:Nat):Bool:=(Region.ready .any ops listed == [i]) && ((ops[i]?).map (λo=>Region.wanted o (yielded ops a.tmps))).any (· == true)
theorem kOne.out{i:Nat}{o:Oper}(D:ops[i]? = some o)(h:kOne ops listed a i=true):Region.ready .any ops listed=[i]/\Region.wanted o (yielded ops a.tmps)=true:=by
 unfold kOne at h;simp only[Bool.and_eq_true,D,Option.map_some,Option.any_some,beq_iff_eq] at h;exact h
theorem kF(i:Nat)(dst:Option Tmp){o:Oper}{f:FuncId}{args:Wa}(h:Calls P f args w λe w'=>∃ v,e = .returned v/\S w'/\(S w'->wpAnyH P .any ops Q S fuel (listed.setIfInBounds i true) (a.put dst v) w'))(I:ops[i]? = some o:=by rfl)(D:o.dst=dst:=by rfl)(O:kOne ops listed a i=true:=by kernel_rfl)
  (hent:(execOp a.eval o).run P w = .ok (.enter f args) w:=by unfold execOp;go_simp):wpAnyH P .any ops Q S (fuel+1) listed a w:=by
 subst D;have k:=kOne.out I O;refine wpAnyH_ready k.1 (by simp) (AllReadyH.cons I (λK J=>?_) jN);rw[jP k.2];unfold Oper.wp;rw[hent,Oper.upon_enter];refine h.mono ?_;rintro e w' ⟨v,rfl,hS,R⟩;exact J _ _ hS R
theorem kS(i:Nat)(dst:Option Tmp)(v:Value)(I:Wd){o:Oper}(J:ops[i]? = some o:=by rfl)(D:o.dst=dst:=by rfl)(R:kOne ops listed a i=true:=by kernel_rfl)
  (hrun:(execOp a.eval o).run P w = .ok (.value v) I:=by unfold execOp;go_simp) (hS:S I:=by assumption)
  (h:wpAnyH P .any ops Q S fuel (listed.setIfInBounds i true) (a.put dst v) I):wpAnyH P .any ops Q S (fuel+1) listed a w:=by
 subst D;have k:=kOne.out J R;refine wpAnyH_ready k.1 (by simp) (AllReadyH.cons J (λK O=>?_) jN);rw[jP k.2];unfold Oper.wp;rw[hrun,Oper.upon_value];exact O _ _ hS (λ_=>h)
theorem kR(i:Nat)(dst:Option Tmp){cs:Wv}{b off n:Nat}(ht:w.there b off n)(J:cs.length=n)(h1:∀ u∈cs,u.oneCell'=true)(hS:S (w.setCells b off cs)){o:Oper}{ty:TypeId}{x y:Operand}(O:ops[i]? = some o:=by rfl)(D:o.dst=dst:=by rfl)(I:o.op = .store ty x y:=by rfl)(V:a.eval x = .pointer (some ⟨b,off,none⟩):=by kernel_rfl)(hy:a.eval y = .agg cs.toArray:=by kernel_rfl)(hi:(P.info? ty).map (·.size)=some n:=by kernel_rfl)(U:kOne ops listed a i=true:=by kernel_rfl)
  (h:wpAnyH P .any ops Q S fuel (listed.setIfInBounds i true) (a.put dst undef) (w.setCells b off cs)):wpAnyH P .any ops Q S (fuel+1) listed a w:=by
 subst D;have k:=kOne.out O U;refine wpAnyH_ready k.1 (by simp) (AllReadyH.cons O (λK R=>?_) jN);rw[jP k.2];refine wp_store_mid ty x y I b off cs.toArray V hy (by rw[js,J];exact ht) (by rw[js,J];exact hi) (all_oneCell_toArray h1) ?_;rw[jt];exact R _ _ hS (λ_=>h)
theorem kZ{n:Nat}(S:Wd->Prop){J:Nat}(hS:S w.drew)(D:P.follows .mixedOrders=true:=by kernel_rfl)(I:ops.size=n:=by kernel_rfl)
  (h:S w.drew->wpAnyH P .any ops Q S n (Array.replicate n false) a w.drew):(Code.region J ops true).wp P Q a w:=by
 subst I;exact wp_region_held_drew D hS h
theorem kE{listed:Array Bool}(D:Region.ready .any ops listed=[]:=by kernel_rfl)(h:Q .normal a w):wpAnyH P .any ops Q S fuel listed a w:=wpAnyH_done D h _
end
section
variable {P : Program} {ops : Array Oper} {Q : Exit -> Act -> Wd -> Prop} {S : Wd -> Prop} {a a' : Act} {w : Wd} {listed l' : Array Bool} {fuel : Nat} {dst : Option Tmp}
theorem qP:(∀(a:Act) (t:Tmp) (v:Value),a.put (some t) v={ a with tmps:=a.tmps.setIfInBounds t v })/\(∀(a:Act) (v:Value),a.put none v=a)/\(∀ {α:Type} (l:List α) (i:Nat) (v:α),l.toArray.setIfInBounds i v=(l.set i v).toArray)/\(∀ {α:Type} (x v:α) (l:List α),(x :: l).set 0 v=v :: l)/\(∀ {α:Type} (x v:α) (l:List α) (n:Nat),(x :: l).set (n+1) v=x :: l.set n v):=⟨p1,p5,p2,p3,p4⟩
theorem qT(i:Nat)(v:Value)(h:wpAnyH P .any ops Q S fuel l' a' w){I:Op}{J:TypeId}{ps:String}{D:Array Edge}{gd:Option (Nat×Bool)}(U:ops[i]? = some ⟨dst,I,J,ps,D,gd⟩:=by rfl)(R:listed.setIfInBounds i true=l':=by(try simp only[qP]) <;> rfl)(ha:a.put dst v=a':=by(try simp only[qP]) <;> rfl)(O:kOk ops listed a i true=true:=by kernel_rfl)
  (hy:∀ w,S w->(execOp a.eval ⟨dst,I,J,ps,D,gd⟩).run P w = .ok (.value v) w:=by intro w hS;unfold execOp;go_simp)
  (K:∀ c a w,Q (.panic c) (a.put dst v) w->Q (.panic c) a w:=by exact λ_ _ _ h=>h) (hS:S w:=by assumption):wpAnyH P .any ops Q S (fuel+1) listed a w:=by
 subst R ha;exact kT i dst v U rfl O hy K hS h
theorem qX(i:Nat)(h:wpAnyH P .any ops Q S fuel l' a' w){R:Op}{U:TypeId}{ps:String}{D:Array Edge}{gd:Option (Nat×Bool)}(O:ops[i]? = some ⟨dst,R,U,ps,D,gd⟩:=by rfl)(K:listed.setIfInBounds i true=l':=by(try simp only[qP]) <;> rfl)(ha:a.put dst undef=a':=by(try simp only[qP]) <;> rfl)(J:kOk ops listed a i false=true:=by kernel_rfl)
  (I:∀ c a w,Q (.panic c) (a.put dst undef) w->Q (.panic c) a w:=by exact λ_ _ _ h=>h) (hS:S w:=by assumption):wpAnyH P .any ops Q S (fuel+1) listed a w:=by
 subst K ha;exact kX i dst O rfl J I hS h
theorem qM(i:Nat)(v:Value)(h:wpAnyH P .any ops Q S fuel l' a' w){x:Operand}{U:TypeId}{ps:String}{D:Array Edge}{gd:Option (Nat×Bool)}(O:ops[i]? = some ⟨dst,.move x,U,ps,D,gd⟩:=by rfl)(K:listed.setIfInBounds i true=l':=by(try simp only[qP]) <;> rfl)(ha:a.put dst v=a':=by(try simp only[qP]) <;> rfl)(R:a.eval x=v:=by kernel_rfl)(J:kOk ops listed a i true=true:=by kernel_rfl)
  (I:∀ c a' w,Q (.panic c) (a'.put dst v) w->Q (.panic c) a' w:=by exact λ_ _ _ h=>h) (hS:S w:=by assumption):wpAnyH P .any ops Q S (fuel+1) listed a w:=by
 subst K ha;exact kM i dst v O rfl rfl R J I hS h
theorem qC(i:Nat){v:Value}{D:Addr}(V:∀ w,S w->w.cell? D=some v)(h:wpAnyH P .any ops Q S fuel l' a' w){ty:TypeId}{x:Operand}{tz:TypeId}{ps:String}{I:Array Edge}{gd:Option (Nat×Bool)}(R:ops[i]? = some ⟨dst,.load ty x,tz,ps,I,gd⟩:=by rfl)(O:listed.setIfInBounds i true=l':=by(try simp only[qP]) <;> rfl)(ha:a.put dst v=a':=by(try simp only[qP]) <;> rfl)(Z:a.eval x = .pointer (some D):=by kernel_rfl)(U:((P.underlying ty).map (·.isRow))=some false:=by kernel_rfl)(K:kOk ops listed a i true=true:=by kernel_rfl)
  (J:∀ c a w,Q (.panic c) (a.put dst v) w->Q (.panic c) a w:=by exact λ_ _ _ h=>h) (hS:S w:=by assumption):wpAnyH P .any ops Q S (fuel+1) listed a w:=by
 subst O ha;exact kC i dst V R rfl rfl Z U K J hS h
theorem qL(i:Nat){cs:Wv}{b off n:Nat}(U:∀ w,S w->w.rangeAt b off cs)(O:cs.length=n)(h:wpAnyH P .any ops Q S fuel l' a' w){ty:TypeId}{x:Operand}{tz:TypeId}{ps:String}{D:Array Edge}{gd:Option (Nat×Bool)}(R:ops[i]? = some ⟨dst,.load ty x,tz,ps,D,gd⟩:=by rfl)(K:listed.setIfInBounds i true=l':=by(try simp only[qP]) <;> rfl)(ha:a.put dst (.agg cs.toArray)=a':=by(try simp only[qP]) <;> rfl)(Z:a.eval x = .pointer (some ⟨b,off,none⟩):=by kernel_rfl)(V:((P.underlying ty).map (·.isRow))=some true:=by kernel_rfl)(hi:(P.info? ty).map (·.size)=some n:=by kernel_rfl)(J:kOk ops listed a i true=true:=by kernel_rfl)
  (I:∀ c a w,Q (.panic c) (a.put dst (.agg cs.toArray)) w->Q (.panic c) a w:=by exact λ_ _ _ h=>h) (hS:S w:=by assumption):wpAnyH P .any ops Q S (fuel+1) listed a w:=by
 subst K ha;exact kL i dst U O R rfl rfl Z V hi J I hS h
end
end
section
open Go.RowKit
attribute [local irreducible] wpQuiet wpAnyH
def arr{α:Type}(n:Nat)(f:Nat->α):List α:=(List.range n).map f
theorem aA{α:Type}(n:Nat)(f:Nat->α):(arr n f).length=n:=by simp[arr]
theorem dC{α:Type}{n i:Nat}(f:Nat->α)(h:i<n):(arr n f)[i]? = some (f i):=by simp[arr,h]
def aY{α:Type}(f:Nat->α)(i:Nat)(v:α):Nat->α:=λk=>if k=i then v else f k
theorem mO{α:Type}(f:Nat->α)(i:Nat)(v:α):aY f i v i=v:=jP rfl
theorem EM{α:Type}(f:Nat->α){i k:Nat}(v:α)(h:k≠i):aY f i v k=f k:=jQ h
theorem iM{α:Type}{n:Nat}{f g:Nat->α}(h:∀ k,k<n->f k=g k):arr n f=arr n g:=by
 unfold arr;exact List.map_congr_left (λk D=>h k (List.mem_range.1 D))
theorem sX{α:Type}(n i:Nat)(f:Nat->α)(v:α):(arr n f).set i v=arr n (aY f i v):=by
 apply List.ext_getElem?;intro k;rw[List.getElem?_set];by_cases hk:k<n
 ·rw[dC _ hk,aA];by_cases e:i=k
  ·subst e;rw[jP rfl,jP hk,dC _ hk,mO]
  ·rw[jQ e,dC _ hk,EM _ _ (λh=>e h.symm)]
 ·have h1:(arr n f)[k]? = none:=List.getElem?_eq_none (by rw[aA];omega);have D:(arr n (aY f i v))[k]? = none:=List.getElem?_eq_none (by rw[aA];omega);rw[h1,D,aA];split
  ·rw[jQ (by omega)]
  ·rfl
theorem GU{α β:Type}(c:α->β)(f:Nat->α)(i:Nat)(v:α):aY (λk=>c (f k)) i (c v)=λk=>c (aY f i v k):=by
 funext k
 unfold aY;split <;> rfl
def c32(f:Nat->Nat):Nat->Value:=λk=>.int .u32 (f k:Nat)
def c8(f:Nat->Nat):Nat->Value:=λk=>.int .u8 (f k:Nat)
theorem sY(f:Nat->Nat)(i v:Nat):aY (c32 f) i (.int .u32 (v:Nat))=c32 (aY f i v):=GU (λx:Nat=>Value.int .u32 (x:Int)) f i v
theorem cY(f:Nat->Nat)(i v:Nat):aY (c8 f) i (.int .u8 (v:Nat))=c8 (aY f i v):=GU (λx:Nat=>Value.int .u8 (x:Int)) f i v
def AB(W:Wd)(g:Nat)(t:TypeId)(n:Nat)(F:Nat->Value):Prop:=Blk W g t (arr n F).toArray
section
variable {W W' : Wd} {g n i : Nat} {t : TypeId} {F G : Nat -> Value}
theorem AB.cell(h:AB W g t n F)(hi:i<n):W.cell? ⟨g,i,none⟩=some (F i):=by
 have:=Blk.cell h i;rw[this,jf];exact dC F hi
theorem AB.frozen(h:AB W g t n F)(i:Nat):W.frozen? ⟨g,i,none⟩=false:=Blk.frozen h i
theorem AB.set(h:AB W g t n F)(i:Nat)(v:Value):AB (W.setCell ⟨g,i,none⟩ v) g t n (aY F i v):=by
 have:=Blk.set_ h i v;rw[List.setIfInBounds_toArray,sX] at this;exact this
theorem AB.keep(h:AB W g t n F)(hb:Bw W W'):AB W' g t n F:=Blk.keep h hb
theorem AB.far(h:AB W g t n F){p:Addr}(D:g≠p.block)(u:Value):AB (W.setCell p u) g t n F:=Blk.far h D u
theorem AB.ext(h:AB W g t n F)(e:∀ k,k<n->F k=G k):AB W g t n G:=by
 unfold AB at h ⊢;rw[<- iM e];exact h
theorem AB.lt(h:AB W g t n F):g<W.heap.size:=Blk.lt h
theorem AB.range(h:AB W g t n F):W.rangeAt g 0 (arr n F):=by
 have:=Blk.range h
 rwa [jt] at this
theorem AB.new(w:Wd)(t:TypeId)(n:Nat)(F:Nat->Value):AB (w.alloc (.cells (arr n F).toArray t)) w.heap.size t n F:=Blk.new w t _
end
theorem aP{n:Nat}{F:Nat->Value}(h:∀ k,(F k).oneCell'=true):(arr n F).toArray.all (·.oneCell')=true:=by
 refine all_oneCell_toArray (λu D=>?_);unfold arr at D;obtain⟨k,_,rfl⟩:=List.mem_map.1 D;exact h k
theorem aC(n:Nat)(F:Nat->Value):(arr n F).toArray.size=n:=by rw[js,aA]
theorem p0(n:Nat):Array.replicate n false=(List.replicate n false).toArray:=by rw[List.toArray_replicate]
theorem pe(l:Wv)(df:List Deferred)(d:Tmp)(v:Value):(Act.mk l.toArray df).put (some d) v=⟨(l.set d v).toArray,df⟩:=by
 unfold Act.put;simp only[List.setIfInBounds_toArray]
section
variable {P : Program}
theorem gF{ops:Array Oper}{rest:List Oper}{o:Oper}{a:Act}{w:Wd}{Q:Exit->Act->Wd->Prop}(ty:TypeId)(parts:Array (Nat×Operand))(J:o.op = .build ty parts)(O:Region.wanted o (yielded ops a.tmps)=true)
  {vs:List (Nat×Value)} {cells:Wa} (D:(parts.toList.map fun(i,x)=>(i,a.eval x))=vs) (hb:P.built ty vs=some cells)
  (h:wpList P ops Q rest (a.put o.dst (.agg cells)) w):wpList P ops Q (o :: rest) a w:=
 wpList_step λK I=>by
  rw[jP O];rw[<- Array.toList_map] at D;unfold Oper.wp;have hrun:(execOp a.eval o).run P w = .ok (.value (.agg cells)) w:=by
   unfold execOp;simp only[J,Sem.run_bind,run_build w ty _ cells (by rw[D];exact hb),Result.andThen_ok];rfl
  rw[hrun,Oper.upon_value];exact I _ _ h
end
theorem fA{P:Program}{t e:TypeId}{n:Nat}(cs:Wa)(i:Nat){v:Value}(h:P.underlying t=some (.array n e))(hi:i<n)(hs:∀ w,(sizeOf e).run P w = .ok 1 w)(D:∀ w,(isAgg e).run P w = .ok false w)(I:cs[i]? = some v)(w:Wd):
  (Instr.index t (.agg cs) (.int .i64 (i:Int))).run P w = .ok v w:=by
 simp[Instr.index,run_underlying h,asIntOf,hi,go_sem,hs,part,D,I]
section
variable {P : Program} {ops : Array Oper} {Q : Exit -> Act -> Wd -> Prop} {S : Wd -> Prop} {a : Act} {w : Wd} {listed : Array Bool} {fuel : Nat}
theorem kW(i:Nat)(dst:Option Tmp)(I:Wd){o:Oper}(J:ops[i]? = some o:=by rfl)(D:o.dst=dst:=by rfl)(R:kOne ops listed a i=true:=by kernel_rfl)
  (hrun:(execOp a.eval o).run P w = .ok .skip I:=by unfold execOp;go_simp) (hS:S I:=by assumption)
  (h:wpAnyH P .any ops Q S fuel (listed.setIfInBounds i true) (a.put dst undef) I):wpAnyH P .any ops Q S (fuel+1) listed a w:=by
 subst D;have k:=kOne.out J R;refine wpAnyH_ready k.1 (by simp) (AllReadyH.cons J (λK O=>?_) jN);rw[jP k.2];unfold Oper.wp;rw[hrun];exact O _ _ hS (λ_=>h)
end
end
section
open Go.RowKit
attribute [local irreducible] wpQuiet wpAnyH
def cX(x n:Nat):Nat:=(x*2 ^ (32-n) % 4294967296) ||| (x/2 ^ n)
theorem bZ{x n:Nat}(h:x<4294967296):cX x n<4294967296:=by
 unfold cX;exact Nat.or_lt_two_pow (n:=32) (Nat.mod_lt _ (by omega)) (Nat.lt_of_le_of_lt (Nat.div_le_self _ _) h)
theorem MC(x n:Nat)(w:Wd)(I:x<4294967296)(h1:1<=n)(K:n<=31):
  Wc 217 #[.int .u32 x,.int .i64 (-(n:Int))] w λe w'=>e = .returned (.int .u32 (cX x n))/\w'=w:=by
 have J:bits .and .u64 (IntKind.u64.wrap (-(n:Int))) 31=((32-n:Nat):Int):=by
  have a:IntKind.u64.wrap (-(n:Int))=((18446744073709551616-n:Nat):Int):=by
   simp[IntKind.wrap,IntKind.bits,IntKind.signed];omega
  rw[a];have:=u64_and_nat (18446744073709551616-n) 31 (by omega) (by omega);rw[nat_mask5] at this;refine this.trans ?_;omega
 have D:bits .or .u32 ((x:Int)*2 ^ (32-n) % 4294967296) ((x:Int)/2 ^ (32-(32-n)))=((cX x n:Nat):Int):=by
  have a:32-(32-n)=n:=by omega
  have h:=u32_or_nat (x*2 ^ (32-n) % 4294967296) (x/2 ^ n) (Nat.mod_lt _ (by omega)) (Nat.lt_of_le_of_lt (Nat.div_le_self _ _) I);rw[a];simp only[Int.natCast_emod,Int.natCast_mul,Int.natCast_pow,Int.natCast_ediv,Int.cast_ofNat_Int] at h;exact h
 go_enter func217,ntmps217
 go_wp2_with fail
 go_ret;refine⟨?_,rfl⟩;rw[<- D];rfl
theorem gM(x n:Nat)(w:Wd)(R:x<4294967296)(h1:1<=n)(J:n<=31):
  Wc 175 #[.int .u32 x,.int .i64 n] w λe w'=>e = .returned (.int .u32 (cX x n))/\w'=w:=by
 have I:=jz (MC x n w R h1 J);have K:(1:Int)<=n:=by omega
 have O:(n:Int)<=31:=by omega
 go_enter func175,ntmps175
 go_wp2_with fail
 refine I.mono ?_;rintro e w' ⟨rfl,D⟩;rw[D];clear D;go_wp2_with fail
 go_ret;exact⟨rfl,rfl⟩
def aQ(b:Nat->Nat):Prop:=∀ k,b k<256
def pw(b:Nat->Nat)(i:Nat):Nat->Nat
 | 0=>0
 | j+1=>pw b i j*256+b (4*i+j)
theorem GV{b:Nat->Nat}(hb:aQ b)(i:Nat):∀ j,pw b i j<256 ^ j
 | 0=>Nat.one_pos
 | j+1=>by
  have h1:=GV hb i j;have D:=hb (4*i+j);rw[Nat.pow_succ];show pw b i j*256+b (4*i+j)<_;omega
def sg0(x:Nat):Nat:=(cX x 7 ^^^ cX x 18) ^^^ (x/8)
def sg1(x:Nat):Nat:=(cX x 17 ^^^ cX x 19) ^^^ (x/1024)
theorem iF{a b:Nat}(ha:a<4294967296)(hb:b<4294967296):a ^^^ b<4294967296:=Nat.xor_lt_two_pow (n:=32) ha hb
theorem TZ{x:Nat}(h:x<4294967296):sg0 x<4294967296:=iF (iF (bZ h) (bZ h)) (by omega)
theorem T4{x:Nat}(h:x<4294967296):sg1 x<4294967296:=iF (iF (bZ h) (bZ h)) (by omega)
def m32(x:Nat):Nat:=x % 4294967296
theorem oD(x:Nat):m32 x=x % 4294967296:=rfl
theorem y7(x:Nat):m32 x<4294967296:=Nat.mod_lt _ (by omega)
attribute [irreducible] m32
def wk(b:Nat->Nat)(k:Nat):Nat:=if h:k<16 then pw b k 4 else m32 (m32 (m32 (wk b (k-16)+sg0 (wk b (k-15)))+wk b (k-7))+sg1 (wk b (k-2)))
termination_by k
decreasing_by all_goals omega
theorem BM(b:Nat->Nat){k:Nat}(h:k<16):wk b k=pw b k 4:=by rw[wk,dif_pos h]
theorem BO(b:Nat->Nat){k:Nat}(h:16<=k):wk b k=m32 (m32 (m32 (wk b (k-16)+sg0 (wk b (k-15)))+wk b (k-7))+sg1 (wk b (k-2))):=by rw[wk,dif_neg (by omega)]
theorem rR{b:Nat->Nat}(hb:aQ b)(k:Nat):wk b k<4294967296:=by
 by_cases h:k<16
 ·rw[BM b h];exact GV hb k 4
 ·rw[BO b (by omega)];exact y7 _
theorem WR(y c j:Nat)(J:j<=3)(hy:y<256 ^ j)(I:c<256):bits .or .u32 ((y:Int)*256 % 4294967296) ((c:Int) % 4294967296)=((y*256+c:Nat):Int):=by
 have K:y<16777216:=jp hy (by have:=Nat.pow_le_pow_right (n:=256) (by omega) J;exact this);have e:((y:Int)*256 % 4294967296)=((y*256:Nat):Int):=by omega
 have D:((c:Int) % 4294967296)=(c:Int):=by omega
 rw[e,D,u32_or_nat (y*256) c (by omega) (by omega),nat_join 8 (y*256) c (by omega) I]
theorem QO(k c:Nat)(h:c<=k)(D:k<1000000):IntKind.i64.wrap ((k:Int)-c)=(k:Int)-c/\(c:Int)<=k/\(k:Int)-c<1000000/\((k:Int)-c).toNat=k-c:=
 ⟨by simp[IntKind.wrap,IntKind.bits,IntKind.signed];omega,by omega,by omega,by omega⟩
theorem eZ(a b:Nat):IntKind.u32.wrap ((a:Int)+b)=((m32 (a+b):Nat):Int):=by
 rw[IntKind.wrap_u32',oD];omega
structure SC(w0 W:Wd)(g:Nat)(b:Nat->Nat)(f:Nat->Nat):Prop where
 be:Bw w0 W
 lo:w0.heap.size<=g
 p:AB W g 195 64 (c8 b)
 r:AB W (g+1) 276 64 (c32 λ_=>0)
 v:AB W (g+1+1) 276 64 (c32 f)
theorem SC.set{w0 W:Wd}{g:Nat}{b f:Nat->Nat}(h:SC w0 W g b f)(i v:Nat):SC w0 (W.setCell ⟨g+1+1,i,none⟩ (.int .u32 (v:Nat))) g b (aY f i v):=
 ⟨h.be.setCell (by have:=h.lo;show w0.heap.size<=g+1+1;omega) _,h.lo,h.p.far (by show g≠g+1+1;omega) _,h.r.far (by show g+1≠g+1+1;omega) _,by have:=h.v.set i (.int .u32 (v:Nat));rwa [sY] at this⟩
theorem BP{α:Type}{f:Nat->α}{i:Nat}{v:α}(h:f i=v):aY f i v=f:=by
 funext k
 unfold aY;split
 ·rename_i e;rw[e,h]
 ·rfl
theorem GW{α:Type}(f:Nat->α)(i:Nat)(u v:α):aY (aY f i u) i v=aY f i v:=by
 funext k
 unfold aY;split <;> rfl
theorem SC.drew{w0 W:Wd}{g:Nat}{b f:Nat->Nat}(h:SC w0 W g b f):SC w0 W.drew g b f:=⟨h.be.drew,h.lo,h.p,h.r,h.v⟩
theorem SC.fn{w0 W:Wd}{g:Nat}{b f f':Nat->Nat}(h:SC w0 W g b f)(e:f=f'):SC w0 W g b f':=e ▸ h
def z32x64:Wa:=(arr 64 (c32 λ_=>0)).toArray
theorem k9:∀ w,(zeroValue 276).run prog w = .ok (.agg z32x64) w:=λw=>by unfold z32x64;kernel_rfl
theorem y8(b:Nat->Nat)(w:Wd)(hb:aQ b):
  Wc 174 #[.agg (arr 64 (c8 b)).toArray] w (Rt w (.agg (arr 64 (c32 (wk b))).toArray)):=by
 have R:=jz hb;clear hb;go_enter func174,ntmps174
 go_upto_region 2 with (refine al 276 _ rfl rfl k9 ?_)
 obtain⟨g,hg⟩:=je w.heap.size;obtain⟨w1,a9⟩:=je (((w.alloc (.cells (arr 64 (c8 b)).toArray 195)).alloc (.cells z32x64 276)).alloc (.cells z32x64 276));have c9:Hid (SC w w1 g b (λ_=>0)):=jz (by
  rw[a9,hg]
  exact⟨(((ji _ w).alloc (ja _) _).alloc (by simp) _).alloc (by simp;omega) _,ja _,((Blk.new w _ _).alloc _).alloc _,(Blk.newAt _ _ _ _ (by simp)).alloc _,Blk.newAt _ _ _ _ (by simp)⟩)
 rw[<- a9];simp only[World.size_alloc,<- hg];clear a9 hg;go_wp2_with fail
 go_loopw [12] (λi wr=>∃ k:Nat,k<=16/\i = .int .i64 (k:Int)/\Hid (SC w wr g b (λq=>if q<k then pw b q 4 else 0))) (λi _=>16-(intOf i).toNat)
 case atStart=>exact⟨0,j0 _,rfl,jz (by have:=c9.out;simpa using this)⟩
 case round=>
  obtain⟨k,hk,rfl,I⟩:=hrel;rcases jo k 16 with e6|e5
  ·have g8:(0:Int)<=k:=by omega
   have h0:(k:Int)<16:=by omega
   have g1:prog.arrayLen 195=64:=by kernel_rfl
   have f8:(0:Int)<=4*k:=by omega
   have f9:4*(k:Int)<=4*k+4:=by omega
   have g0:4*(k:Int)+4<=64:=by omega
   go_wp2_with fail
   rw[show 4*k+4-4*k=4 from by omega];have c6:Hid (SC w wr g b (aY (λq=>if q<k then pw b q 4 else 0) k (pw b k 0))):=jz (by rw[BP (by rw[jQ (by omega)];rfl)];exact I);clear g1 f8 f9 g0 I;go_loopw [22] (λi wr=>∃ j:Nat,j<=4/\i = .int .i64 (j:Int)/\Hid (SC w wr g b (aY (λq=>if q<k then pw b q 4 else 0) k (pw b k j)))) (λi _=>4-(intOf i).toNat)
   case atStart=>exact⟨0,j0 _,rfl,c6⟩
   case round=>
    clear c6;obtain⟨j,hj,rfl,I⟩:=hrel;rcases jo j 4 with m2|h6
    ·have k7:(0:Int)<=j:=by omega
     have m1:(j:Int)<4:=by omega
     have g2:wr.cell? ⟨g,4*k+j,none⟩=some (.int .u8 (b (4*k+j):Nat)):=I.p.cell (by omega);have d5:=I.v.cell (i:=k) (by omega);have k6:=I.v.frozen k;have J:=jz (I.set k (pw b k j*256+b (4*k+j)));have e7:=WR (pw b k j) (b (4*k+j)) j (by omega) (GV R k j) (R _);rw[show c32 (aY (λq=>if q<k then pw b q 4 else 0) k (pw b k j)) k = .int .u32 (pw b k j:Nat) from by unfold c32;rw[mO]] at d5;obtain⟨y,hy⟩:=je (pw b k j);obtain⟨c,a8⟩:=je (b (4*k+j));rw[<- hy] at d5 e7 J;rw[<- a8] at g2 e7 J;have HY:=jz (And.intro hy a8);rw[show((y*256+c:Nat):Int)=(y:Int)*256+c from by omega] at J;clear hy a8 I;go_wp2_with fail
     exact⟨⟨j+1,by omega,by go_num,jz (J.fn (by rw[HY.out.1,HY.out.2,GW];rfl))⟩,by simp[intOf];omega⟩
    ·obtain rfl:j=4:=by omega
     have f5:Hid (SC w wr g b (λq=>if q<k+1 then pw b q 4 else 0)):=jz (I.fn (by
      funext q
      show(if q=k then _ else (if q<k then pw b q 4 else 0))=(if q<k+1 then pw b q 4 else 0)
      by_cases e:q=k
      ·subst e;rw[jP rfl,jP (by omega)]
      ·rw[jQ e]
       by_cases e2:q<k
       ·rw[jP e2,jP (by omega)]
       ·rw[jQ e2,jQ (by omega)]))
     clear I;go_wp2_with fail
     exact⟨⟨k+1,by omega,by go_num,f5⟩,by simp[intOf];omega⟩
  ·have h7:¬(k:Int)<16:=by omega
   have c7:Hid (SC w wr g b (λq=>if q<16 then wk b q else 0)):=jz (I.fn (by
    have f7:k=16:=by omega
    subst f7
    funext q
    split
    ·rename_i e;exact(BM b e).symm
    ·rfl))
   clear I c9 hk e5;go_wp2_with fail
   go_loopw [7] (λi wr=>∃ k:Nat,16<=k/\k<=64/\i = .int .i64 (k:Int)/\Hid (SC w wr g b (λq=>if q<k then wk b q else 0))) (λi _=>64-(intOf i).toNat)
   case atStart=>exact⟨16,ja _,by omega,rfl,c7⟩
   case round=>
    clear c7;obtain⟨k,h3,hk,rfl,I⟩:=hrel;rcases jo k 64 with e6|e5
    ·have g8:(16:Int)<=k:=by omega
     have h0:(k:Int)<64:=by omega
     have hW:=BO b h3;have a0:=rR R (k-15);have l2:=rR R (k-2);have l7:=rR R (k-7);have f0:=rR R (k-16);have O:∀ W,SC w W g b (λq=>if q<k then wk b q else 0)->∀ q,q<k->W.cell? ⟨g+1+1,q,none⟩=some (.int .u32 (wk b q:Nat)):=λW V q hq=>by
      have:=V.v.cell (i:=q) (by omega);rw[this];show some (Value.int .u32 ((if q<k then wk b q else 0:Nat):Int))=_;rw[jP hq]
     obtain⟨m5,h9,k1,m3⟩:IntKind.i64.wrap ((k:Int)-15)=(k:Int)-15/\(15:Int)<=k/\(k:Int)-15<1000000/\((k:Int)-15).toNat=k-15:=QO k 15 (by omega) (by omega);have k3:(k:Int)-15<64:=by omega
     obtain⟨w2,a2,b2,t2⟩:IntKind.i64.wrap ((k:Int)-2)=(k:Int)-2/\(2:Int)<=k/\(k:Int)-2<1000000/\((k:Int)-2).toNat=k-2:=QO k 2 (by omega) (by omega);have d2:(k:Int)-2<64:=by omega
     obtain⟨m6,k0,k2,m4⟩:IntKind.i64.wrap ((k:Int)-16)=(k:Int)-16/\(16:Int)<=k/\(k:Int)-16<1000000/\((k:Int)-16).toNat=k-16:=QO k 16 (by omega) (by omega);have k4:(k:Int)-16<64:=by omega
     obtain⟨w7,a7,b7,t7⟩:IntKind.i64.wrap ((k:Int)-7)=(k:Int)-7/\(7:Int)<=k/\(k:Int)-7<1000000/\((k:Int)-7).toNat=k-7:=QO k 7 (by omega) (by omega);have d7:(k:Int)-7<64:=by omega
     go_upto_region 14 with fail
     refine kZ (n:=10) (λW=>SC w W g b (λq=>if q<k then wk b q else 0)) (I.drew) (h:=λhH=>?_);refine qM 0 (.int .i64 k) ?_;refine qT 1 (.int .i64 ((k:Int)-15)) ?_;refine qT 2 (.pointer (some ⟨g+1+1,k-15,none⟩)) ?_;refine qC 3 (v:=.int .u32 (wk b (k-15):Nat)) (λW V=>O W V (k-15) (by omega)) ?_;refine qM 4 (.int .i64 k) ?_;refine qT 5 (.int .i64 ((k:Int)-2)) ?_;refine qT 6 (.pointer (some ⟨g+1+1,k-2,none⟩)) ?_;refine qC 7 (v:=.int .u32 (wk b (k-2):Nat)) (λW V=>O W V (k-2) (by omega)) ?_;refine qT 8 (.int .u32 (wk b (k-15):Nat)) ?_;refine qT 9 (.int .u32 (wk b (k-2):Nat)) ?_;refine kE (h:=?_);have r7:=bZ (n:=7) a0;have b3:=bZ (n:=18) a0;have b1:=bZ (n:=17) l2;have b9:=bZ (n:=19) l2;have e1:=u32_xor_nat _ _ r7 b3;have e2:=u32_xor_nat (cX (wk b (k-15)) 7 ^^^ cX (wk b (k-15)) 18) (wk b (k-15)/8) (iF r7 b3) (by omega);have e3:=u32_xor_nat _ _ b1 b9;have e4:=u32_xor_nat (cX (wk b (k-2)) 17 ^^^ cX (wk b (k-2)) 19) (wk b (k-2)/1024) (iF b1 b9) (by omega);simp only[Int.natCast_ediv,Int.cast_ofNat_Int] at e2 e4;obtain⟨s0,a3⟩:=je (sg0 (wk b (k-15)));obtain⟨s1,K⟩:=je (sg1 (wk b (k-2)));have l0:s0<4294967296:=by rw[a3];exact TZ a0
     have l1:s1<4294967296:=by rw[K];exact T4 l2
     rw[show(cX (wk b (k-15)) 7 ^^^ cX (wk b (k-15)) 18) ^^^ wk b (k-15)/8=s0 from a3.symm] at e2;rw[show(cX (wk b (k-2)) 17 ^^^ cX (wk b (k-2)) 19) ^^^ wk b (k-2)/1024=s1 from K.symm] at e4;rw[<- a3,<- K] at hW;have c2:=jz (λW=>gM (wk b (k-15)) 7 W a0 (by omega) (by omega));have c3:=jz (λW=>gM (wk b (k-15)) 18 W a0 (by omega) (by omega));have c4:=jz (λW=>gM (wk b (k-2)) 17 W l2 (by omega) (by omega));have c5:=jz (λW=>gM (wk b (k-2)) 19 W l2 (by omega) (by omega));have HW:=jz hW;have HG:=jz O;have HL:=jz (And.intro l7 f0);clear a3 K r7 b3 b1 b9 hW O l7 f0 hH;go_wp2_with fail
     refine(c2 _).mono ?_;rintro e w2 ⟨rfl,D⟩;rw[D];clear D w2;go_wp2_with fail
     refine(c3 _).mono ?_;rintro e w2 ⟨rfl,D⟩;rw[D];clear D w2;go_wp2_with fail
     refine(c4 _).mono ?_;rintro e w2 ⟨rfl,D⟩;rw[D];clear D w2;go_wp2_with fail
     refine(c5 _).mono ?_;rintro e w2 ⟨rfl,D⟩;rw[D];clear D w2;go_upto_region 17 with fail
     clear e1 e2 e3 e4 c2 c3 c4 c5;obtain⟨wS,a4⟩:=je wr.drew.drew;have U:Hid (SC w wS g b (λq=>if q<k then wk b q else 0)):=jz (by rw[a4];exact I.drew.drew);have d0:Hid (∃ f,SC w wS g b f/\∀ q,q<k->f q=wk b q):=jz ⟨_,U,λq hq=>by show(if q<k then wk b q else 0)=_;rw[jP hq]⟩;have Z:∀ W,(∃ f,SC w W g b f/\∀ q,q<k->f q=wk b q)->∀ q,q<k->W.cell? ⟨g+1+1,q,none⟩=some (.int .u32 (wk b q:Nat)):=λW V q hq=>by
      obtain⟨f,h1,h2⟩:=V;have:=h1.v.cell (i:=q) (by omega);rw[this];show some (Value.int .u32 (f q:Nat))=_;rw[h2 q hq]
     have e0:=U.v.cell (i:=k) e6;have g3:=U.v.frozen k;have hz:c32 (λq=>if q<k then wk b q else 0) k = .int .u32 0:=by
      show Value.int .u32 ((if k<k then wk b k else 0:Nat):Int)=_;rw[jQ (Nat.lt_irrefl k)];rfl
     rw[hz] at e0;have d3:=U.set k (wk b k);obtain⟨A1,a5⟩:=je (m32 (wk b (k-16)+s0));obtain⟨A2,a6⟩:=je (m32 (A1+wk b (k-7)));have q1:=eZ (wk b (k-16)) s0;have q2:=eZ A1 (wk b (k-7));have q3:=eZ A2 s1;rw[<- a5] at q1;rw[<- a6] at q2;rw[show m32 (A2+s1)=wk b k from by rw[HW.out,a6,a5]] at q3;have J:=jz d3;clear d3 hz a5 a6;refine kZ (n:=16) (λW=>∃ f,SC w W g b f/\∀ q,q<k->f q=wk b q) (by rw[<- a4];exact d0) (h:=λhH=>?_);rw[<- a4] at hH ⊢;clear a4;refine qM 0 (.int .i64 k) ?_;refine qM 1 (.int .i64 k) ?_;refine qT 2 (.int .i64 ((k:Int)-16)) ?_;refine qT 3 (.pointer (some ⟨g+1+1,k-16,none⟩)) ?_;refine qC 4 (v:=.int .u32 (wk b (k-16):Nat)) (λW V=>Z W V (k-16) (by omega)) ?_;refine qM 5 (.int .u32 (s0:Nat)) ?_;refine qT 6 (.int .u32 (A1:Nat)) ?_;refine qM 7 (.int .i64 k) ?_;refine qT 8 (.int .i64 ((k:Int)-7)) ?_;refine qT 9 (.pointer (some ⟨g+1+1,k-7,none⟩)) ?_;refine qC 10 (v:=.int .u32 (wk b (k-7):Nat)) (λW V=>Z W V (k-7) (by omega)) ?_;refine qT 11 (.int .u32 (A2:Nat)) ?_;refine qM 12 (.int .u32 (s1:Nat)) ?_;refine qT 13 (.int .u32 (wk b k:Nat)) ?_;refine qT 14 (.pointer (some ⟨g+1+1,k,none⟩)) ?_;refine kW 15 none (wS.setCell ⟨g+1+1,k,none⟩ (.int .u32 (wk b k:Nat))) (hS:=⟨_,J,λq hq=>by show aY (λq=>if q<k then wk b q else 0) k (wk b k) q=_;rw[EM _ _ (by omega),jP hq]⟩) (h:=?_);simp only[jq];refine kE (h:=?_);obtain⟨wz,b0⟩:=je (wS.setCell ⟨g+1+1,k,none⟩ (.int .u32 (wk b k:Nat)));have f6:Hid (SC w wz g b (λq=>if q<k+1 then wk b q else 0)):=jz (by
      rw[b0]
      refine J.fn ?_
      funext q
      show(if q=k then _ else (if q<k then wk b q else 0))=(if q<k+1 then wk b q else 0)
      by_cases e:q=k
      ·subst e;rw[jP rfl,jP (by omega)]
      ·rw[jQ e]
       by_cases e2:q<k
       ·rw[jP e2,jP (by omega)]
       ·rw[jQ e2,jQ (by omega)])
     rw[<- b0];clear b0 J d0 U e0 g3 I hH;go_wp2_with fail
     exact⟨⟨k+1,by omega,by omega,by go_num,f6⟩,by simp[intOf];omega⟩
    ·have k5:k=64:=by omega
     have a1:Hid (SC w wr g b (wk b)):=jz ⟨I.be,I.lo,I.p,I.r,I.v.ext (λq hq=>by
      show Value.int .u32 ((if q<k then wk b q else 0:Nat):Int) = .int .u32 (wk b q:Nat)
      rw[jP (by omega)])⟩
     have h8:¬(k:Int)<64:=by omega
     clear I;have e8:=a1.v.range;have hI:(prog.info? 276).map (·.size)=some (arr 64 (c32 (wk b))).length:=by rw[aA];kernel_rfl
     obtain⟨L,hL⟩:=je (arr 64 (c32 (wk b)));rw[<- hL] at e8 hI;have K:(prog.info? 276).map (·.size)=some L.toArray.size:=by rw[js];exact hI
     have h4:z32x64.size=L.toArray.size:=by rw[hL,aC];exact aC 64 _
     have h5:L.toArray.all (·.oneCell')=true:=by rw[hL];exact aP (λ_=>rfl)
     have f2:Blk wr (g+1) 276 z32x64:=a1.r;have f4:=jz hL;clear hL;go_wp2_with (first
      | (refine ld 276 _ rfl rfl rfl e8 underlying276 rfl hI ?_)
      | (refine aN 276 (.tmp 2) (.tmp 80) rfl rfl rfl rfl f2 K h4 h5 ?_;intro w3 d1 d4 _ _;have f1:=jz d1;have f3:=jz d4;clear d1 d4))
     exact bodyPost_ret (results_cell_row rfl _ _ (g+1) 276 _ (0,0) _ rfl f1 underlying276 rfl K) rfl ⟨by rw[<- f4.out],a1.be.trans (f3.mono (by have:=a1.lo;omega))⟩
  done
def shaT:List Nat:=[1116352408,1899447441,3049323471,3921009573,961987163,1508970993,2453635748,2870763221,3624381080,310598401,607225278,1426881987,1925078388,2162078206,2614888103,3248222580,3835390401,4022224774,264347078,604807628,770255983,1249150122,1555081692,1996064986,2554220882,2821834349,2952996808,3210313671,3336571891,3584528711,113926993,338241895,666307205,773529912,1294757372,1396182291,1695183700,1986661051,2177026350,2456956037,2730485921,2820302411,3259730800,3345764771,3516065817,3600352804,4094571909,275423344,430227734,506948616,659060556,883997877,958139571,1322822218,1537002063,1747873779,1955562222,2024104815,2227730452,2361852424,2428436474,2756734187,3204031479,3329325298]
def lN(i:Nat):Nat:=shaT.getD i 0
attribute [irreducible] shaT
def TabK(w:Wd):Prop:=∀ i,i<64->w.cell? ⟨1,i,none⟩=some (.int .u32 (lN i:Nat))
theorem TabK.below{w w':Wd}(h:TabK w)(hb:Bw w w'):TabK w':=λi hi=>j9 hb (h i hi)
def o7(e:Nat):Nat:=(cX e 6 ^^^ cX e 11) ^^^ cX e 25
def uD(a:Nat):Nat:=(cX a 2 ^^^ cX a 13) ^^^ cX a 22
def chF(e f g:Nat):Nat:=(e &&& f) ^^^ ((4294967295 ^^^ e) &&& g)
def EN(a b c:Nat):Nat:=((a &&& b) ^^^ (a &&& c)) ^^^ (b &&& c)
theorem jO{a b:Nat}(hb:b<4294967296):a &&& b<4294967296:=Nat.and_lt_two_pow (n:=32) a hb
def rt1(v:Nat->Nat)(k x:Nat):Nat:=m32 (m32 (m32 (m32 (v 7+o7 (v 4))+chF (v 4) (v 5) (v 6))+lN k)+x)
def rt2(v:Nat->Nat):Nat:=m32 (uD (v 0)+EN (v 0) (v 1) (v 2))
def rnd(v:Nat->Nat)(k x i:Nat):Nat:=if i=0 then m32 (rt1 v k x+rt2 v) else if i=4 then m32 (v 3+rt1 v k x) else v (i-1)
theorem MD(v:Nat->Nat)(k x:Nat):rt1 v k x=m32 (m32 (m32 (m32 (v 7+o7 (v 4))+chF (v 4) (v 5) (v 6))+lN k)+x):=by unfold rt1;rfl
theorem ME(v:Nat->Nat):rt2 v=m32 (uD (v 0)+EN (v 0) (v 1) (v 2)):=by unfold rt2;rfl
def rg(st b:Nat->Nat):Nat->Nat->Nat
 | 0=>st
 | k+1=>rnd (rg st b k) k (wk b k)
def WsF(v:Nat->Nat):Prop:=∀ i,v i<4294967296
theorem T5{v:Nat->Nat}(h:WsF v)(k x:Nat):WsF (rnd v k x):=λi=>by
 unfold rnd;split
 ·exact y7 _
 ·split
  ·exact y7 _
  ·exact h _
theorem MF{st b:Nat->Nat}(h:WsF st):∀ k,WsF (rg st b k)
 | 0=>h
 | k+1=>T5 (MF h k) k _
def cZ(st b:Nat->Nat)(i:Nat):Nat:=m32 (st i+rg st b 64 i)
theorem QP(st b:Nat->Nat):WsF (cZ st b):=λi=>y7 _
theorem sZ(st b:Nat->Nat)(k:Nat):rg st b (k+1)=rnd (rg st b k) k (wk b k):=by rw[rg]
theorem BQ(v:Nat->Nat)(k x:Nat):rnd v k x 0=m32 (rt1 v k x+rt2 v)/\rnd v k x 4=m32 (v 3+rt1 v k x)/\rnd v k x 1=v 0/\rnd v k x 2=v 1/\rnd v k x 3=v 2/\rnd v k x 5=v 4/\rnd v k x 6=v 5/\rnd v k x 7=v 6:=by
 unfold rnd;exact⟨jP rfl,by rw[jQ (by omega),jP rfl],by rw[jQ (by omega),jQ (by omega)],by rw[jQ (by omega),jQ (by omega)],by rw[jQ (by omega),jQ (by omega)],by rw[jQ (by omega),jQ (by omega)],by rw[jQ (by omega),jQ (by omega)],by rw[jQ (by omega),jQ (by omega)]⟩
attribute [irreducible] rg rnd rt1 rt2
structure SBh(w0 W:Wd)(g:Nat)(b f:Nat->Nat):Prop where
 be:Bw w0 W
 lo:w0.heap.size<=g
 p:AB W g 231 8 (c32 f)
 q:AB W (g+1) 195 64 (c8 b)
 r:AB W (g+1+1) 231 8 (c32 λ_=>0)
theorem SBh.keep{w0 W W':Wd}{g:Nat}{b f:Nat->Nat}(h:SBh w0 W g b f)(hb:Bw W W'):SBh w0 W' g b f:=⟨h.be.trans (hb.mono h.be.size),h.lo,h.p.keep hb,h.q.keep hb,h.r.keep hb⟩
theorem SBh.drew{w0 W:Wd}{g:Nat}{b f:Nat->Nat}(h:SBh w0 W g b f):SBh w0 W.drew g b f:=⟨h.be.drew,h.lo,h.p,h.q,h.r⟩
theorem SBh.fn{w0 W:Wd}{g:Nat}{b f f':Nat->Nat}(h:SBh w0 W g b f)(e:f=f'):SBh w0 W g b f':=e ▸ h
theorem SBh.set{w0 W:Wd}{g:Nat}{b f:Nat->Nat}(h:SBh w0 W g b f)(i v:Nat):SBh w0 (W.setCell ⟨g,i,none⟩ (.int .u32 (v:Nat))) g b (aY f i v):=
 ⟨h.be.setCell (by exact h.lo) _,h.lo,by have:=h.p.set i (.int .u32 (v:Nat));rwa [sY] at this,h.q.far (by show g+1≠g;omega) _,h.r.far (by show g+1+1≠g;omega) _⟩
def z32x8:Wa:=(arr 8 (c32 λ_=>0)).toArray
theorem iV:∀ w,(zeroValue 231).run prog w = .ok (.agg z32x8) w:=λw=>by unfold z32x8;kernel_rfl
theorem JH(st b:Nat->Nat)(w:Wd)(hs:WsF st)(hb:aQ b)(hk:TabK w):
  Wc 133 #[.agg (arr 8 (c32 st)).toArray,.agg (arr 64 (c8 b)).toArray] w (Rt w (.agg (arr 8 (c32 (cZ st b))).toArray)):=by
 have f9:=jz hs;have f1:=jz hb;have h0:=jz hk;clear hs hb hk;go_enter func133,ntmps133
 go_upto_region 1 with (refine al 231 _ rfl rfl iV ?_)
 obtain⟨g,hg⟩:=je w.heap.size;obtain⟨w1,c4⟩:=je (((w.alloc (.cells (arr 8 (c32 st)).toArray 231)).alloc (.cells (arr 64 (c8 b)).toArray 195)).alloc (.cells z32x8 231));have b2:Hid (SBh w w1 g b st):=jz (by
  rw[c4,hg]
  exact⟨(((ji _ w).alloc (ja _) _).alloc (by simp) _).alloc (by simp;omega) _,ja _,((Blk.new w _ _).alloc _).alloc _,(Blk.newAt _ _ _ _ (by simp)).alloc _,Blk.newAt _ _ _ _ (by simp)⟩)
 rw[<- c4];simp only[World.size_alloc,<- hg];clear c4 hg;have d5:=b2.q.range;have hI:(prog.info? 195).map (·.size)=some (arr 64 (c8 b)).length:=by rw[aA];kernel_rfl
 go_wp2_with (refine ld 195 _ rfl rfl rfl d5 underlying195 rfl hI ?_)
 refine(y8 b _ f1).mono ?_;rintro e w2 ⟨rfl,d4⟩;have b0:=jz (b2.keep d4);clear d4 d5 hI b2;obtain⟨L,hL⟩:=je (arr 64 (c32 (wk b)));have a5:(prog.info? 276).map (·.size)=some L.toArray.size:=by rw[hL,aC];kernel_rfl
 have a9:z32x64.size=L.toArray.size:=by rw[hL,aC];exact aC 64 _
 have a6:L.toArray.all (·.oneCell')=true:=by rw[hL];exact aP (λ_=>rfl)
 rw[<- hL];have HL:=jz hL;clear hL;go_upto_region 2 with (first
  | (refine al 276 _ rfl rfl k9 ?_)
  | (refine bQ (cells:=L.toArray) 276 (.tmp 5) (.tmp 21) rfl rfl (by rfl) (by rfl) a5 a9 a6 ?_;intro w3 a2 a4 a6))
 obtain⟨h,hh⟩:=je w2.heap.size;rw[<- hh] at a2 ⊢;have a0:=jz (b0.keep a4);have a1:Hid (Blk w3 h 276 L.toArray):=jz a2;clear a2 a4 a6 hh a5 a9 b0;obtain⟨wS,J⟩:=je w3.drew;have K:Hid (SBh w wS g b st):=jz (by rw[J];exact a0.drew);have Z:Hid (Blk wS h 276 L.toArray):=jz (by rw[J];exact a1);clear a0 a1;refine kZ (n:=12) (λW=>SBh w W g b st/\Blk W h 276 L.toArray) (by rw[<- J];exact⟨K,Z⟩) (h:=λhH=>?_);simp only[p0];dsimp only [List.replicate];rw[<- J] at hH ⊢;clear J;refine qT 0 (.pointer (some ⟨g,0,none⟩)) ?_;refine qC 1 (v:=.int .u32 (st 0:Nat)) (λW V=>V.1.p.cell (i:=0) (by omega)) ?_;refine qT 2 (.pointer (some ⟨g,1,none⟩)) ?_;refine qC 3 (v:=.int .u32 (st 1:Nat)) (λW V=>V.1.p.cell (i:=1) (by omega)) ?_;refine qT 4 (.pointer (some ⟨g,2,none⟩)) ?_;refine qC 5 (v:=.int .u32 (st 2:Nat)) (λW V=>V.1.p.cell (i:=2) (by omega)) ?_;refine qT 6 (.pointer (some ⟨g,3,none⟩)) ?_;refine qC 7 (v:=.int .u32 (st 3:Nat)) (λW V=>V.1.p.cell (i:=3) (by omega)) ?_;refine qT 8 (.int .u32 (st 0:Nat)) ?_;refine qT 9 (.int .u32 (st 1:Nat)) ?_;refine qT 10 (.int .u32 (st 2:Nat)) ?_;refine qT 11 (.int .u32 (st 3:Nat)) ?_;refine kE (h:=?_);go_upto_region 3 with fail
 obtain⟨w3,d7⟩:=je wS;rw[<- d7] at K Z ⊢;have a0:=K;have a1:=Z;clear d7 wS K Z hH;obtain⟨wS,J⟩:=je w3.drew;have K:Hid (SBh w wS g b st):=jz (by rw[J];exact a0.drew);have Z:Hid (Blk wS h 276 L.toArray):=jz (by rw[J];exact a1);clear a0 a1;refine kZ (n:=12) (λW=>SBh w W g b st/\Blk W h 276 L.toArray) (by rw[<- J];exact⟨K,Z⟩) (h:=λhH=>?_);simp only[p0];dsimp only [List.replicate];rw[<- J] at hH ⊢;clear J;refine qT 0 (.pointer (some ⟨g,4,none⟩)) ?_;refine qC 1 (v:=.int .u32 (st 4:Nat)) (λW V=>V.1.p.cell (i:=4) (by omega)) ?_;refine qT 2 (.pointer (some ⟨g,5,none⟩)) ?_;refine qC 3 (v:=.int .u32 (st 5:Nat)) (λW V=>V.1.p.cell (i:=5) (by omega)) ?_;refine qT 4 (.pointer (some ⟨g,6,none⟩)) ?_;refine qC 5 (v:=.int .u32 (st 6:Nat)) (λW V=>V.1.p.cell (i:=6) (by omega)) ?_;refine qT 6 (.pointer (some ⟨g,7,none⟩)) ?_;refine qC 7 (v:=.int .u32 (st 7:Nat)) (λW V=>V.1.p.cell (i:=7) (by omega)) ?_;refine qT 8 (.int .u32 (st 4:Nat)) ?_;refine qT 9 (.int .u32 (st 5:Nat)) ?_;refine qT 10 (.int .u32 (st 6:Nat)) ?_;refine qT 11 (.int .u32 (st 7:Nat)) ?_;refine kE (h:=?_);have a3:=Z.range;rw[jt] at a3;have hI:(prog.info? 276).map (·.size)=some L.length:=by rw[HL.out,aA];kernel_rfl
 go_wp2_with (refine ld 276 _ rfl rfl rfl a3 underlying276 rfl hI ?_)
 clear a3 hI hH;have b1:Hid (SBh w wS g b st/\∀ i,rg st b 0 i=st i):=jz ⟨K,λi=>by rw[rg]⟩;clear K Z;go_loopw [39,6,7,8,9,10,11,12,13] (λi v0 v1 v2 v3 v4 v5 v6 v7 wr=>∃ k:Nat,k<=64/\i = .int .i64 (k:Int)/\v0 = .int .u32 (rg st b k 0:Nat)/\v1 = .int .u32 (rg st b k 1:Nat)/\v2 = .int .u32 (rg st b k 2:Nat)/\v3 = .int .u32 (rg st b k 3:Nat)/\v4 = .int .u32 (rg st b k 4:Nat)/\v5 = .int .u32 (rg st b k 5:Nat)/\v6 = .int .u32 (rg st b k 6:Nat)/\v7 = .int .u32 (rg st b k 7:Nat)/\Hid (SBh w wr g b st)) (λi _ _ _ _ _ _ _ _ _=>64-(intOf i).toNat)
 case atStart=>
  have e:=b1.out.2;exact⟨0,j0 _,rfl,by rw[e],by rw[e],by rw[e],by rw[e],by rw[e],by rw[e],by rw[e],by rw[e],jz b1.out.1⟩
 case round=>
  clear b1;obtain⟨k,hk,rfl,rfl,rfl,rfl,rfl,rfl,rfl,rfl,rfl,HR⟩:=hrel;obtain⟨v,hv⟩:=je (rg st b k);have HV:=jz hv;have h2:Hid (WsF v):=jz (by rw[hv];exact MF f9 k);rw[<- hv];clear hv;rcases jo k 64 with c3|h7
  ·have h8:(0:Int)<=k:=by omega
   have h9:(k:Int)<64:=by omega
   have d2:L.toArray[k]? = some (.int .u32 (wk b k:Nat)):=by rw[jf,HL.out,dC _ c3];rfl
   have d1:∀ W,(Instr.index 276 (.agg L.toArray) (.int .i64 (k:Int))).run prog W = .ok (.int .u32 (wk b k:Nat)) W:=fA _ k underlying276 c3 (λw=>by kernel_rfl) (λw=>by kernel_rfl) d2;go_upto_region 7 with fail
   clear d1 d2;have R:=h2.out;obtain⟨x,hx⟩:=je (wk b k);rw[<- hx];have HX:=jz hx;have r6:=bZ (n:=6) (R 4);have c5:=bZ (n:=11) (R 4);have f0:=bZ (n:=25) (R 4);have e1:=u32_xor_nat _ _ r6 c5;have e2:=u32_xor_nat _ _ (iF r6 c5) f0;rw[show(cX (v 4) 6 ^^^ cX (v 4) 11) ^^^ cX (v 4) 25=o7 (v 4) from rfl] at e2;have e3:=u32_and_nat _ _ (R 4) (R 5);have e4:bits .xor .u32 (if IntKind.u32.signed=true then -1 else IntKind.u32.max) ((v 4:Nat):Int)=((4294967295 ^^^ v 4:Nat):Int):=u32_xor_nat 4294967295 (v 4) (by omega) (R 4);have e5:=u32_and_nat (4294967295 ^^^ v 4) (v 6) (iF (by omega) (R 4)) (R 6);have e6:=u32_xor_nat (v 4 &&& v 5) ((4294967295 ^^^ v 4) &&& v 6) (jO (R 5)) (jO (R 6));rw[show(v 4 &&& v 5) ^^^ ((4294967295 ^^^ v 4) &&& v 6)=chF (v 4) (v 5) (v 6) from rfl] at e6;obtain⟨A1,b3⟩:=je (m32 (v 7+o7 (v 4)));obtain⟨A2,b7⟩:=je (m32 (A1+chF (v 4) (v 5) (v 6)));obtain⟨A3,b9⟩:=je (m32 (A2+lN k));have q1:=eZ (v 7) (o7 (v 4));have q2:=eZ A1 (chF (v 4) (v 5) (v 6));have q3:=eZ A2 (lN k);have q4:=eZ A3 x;rw[<- b3] at q1;rw[<- b7] at q2;rw[<- b9] at q3;have h4:m32 (A3+x)=rt1 v k x:=by rw[MD,b9,b7,b3]
   rw[h4] at q4;obtain⟨T,hT⟩:=je (rt1 v k x);rw[<- hT] at q4;have HT:=jz hT;clear b3 b7 b9 h4 hT hx;obtain⟨wS,J⟩:=je wr.drew;have K:Hid (SBh w wS g b st):=jz (by rw[J];exact HR.drew);have a8:Hid (TabK wS):=jz (h0.below K.be);clear HR;refine kZ (n:=26) (λW=>SBh w W g b st/\TabK W) (by rw[<- J];exact⟨K,a8⟩) (h:=λhH=>?_);simp only[p0];dsimp only [List.replicate];rw[<- J] at hH ⊢;clear J;refine qM 0 (.int .u32 (v 7:Nat)) ?_;refine qM 1 (.int .u32 (v 4:Nat)) ?_;refine qM 3 (.int .u32 (v 4:Nat)) ?_;refine qM 6 (.int .u32 (v 4:Nat)) ?_;refine qM 10 (.int .u32 (v 4:Nat)) ?_;refine qM 11 (.int .u32 (v 5:Nat)) ?_;refine qM 13 (.int .u32 (v 4:Nat)) ?_;refine qM 15 (.int .u32 (v 6:Nat)) ?_;refine qM 19 (.int .i64 k) ?_;refine qM 23 (.int .u32 (x:Nat)) ?_;refine qT 12 (.int .u32 (v 4 &&& v 5:Nat)) ?_;refine qT 14 (.int .u32 (4294967295 ^^^ v 4:Nat)) ?_;refine qT 16 (.int .u32 ((4294967295 ^^^ v 4) &&& v 6:Nat)) ?_;refine qT 17 (.int .u32 (chF (v 4) (v 5) (v 6):Nat)) ?_;refine qT 20 (.pointer (some ⟨1,k,none⟩)) ?_;refine qC 21 (v:=.int .u32 (lN k:Nat)) (λW V=>V.2 k c3) ?_;refine kF 2 (some 45) ((gM (v 4) 6 wS (R _) (by omega) (by omega)).mono ?_);rintro e w2 ⟨rfl,I⟩;rw[I];clear I w2;refine⟨_,rfl,⟨K,a8⟩,λhH=>?_⟩;simp only[pe,p5,p2];dsimp only [List.set];refine kF 4 (some 47) ((gM (v 4) 11 wS (R _) (by omega) (by omega)).mono ?_);rintro e w2 ⟨rfl,I⟩;rw[I];clear I w2;refine⟨_,rfl,⟨K,a8⟩,λhH=>?_⟩;simp only[pe,p5,p2];dsimp only [List.set];refine qT 5 (.int .u32 (cX (v 4) 6 ^^^ cX (v 4) 11:Nat)) ?_;refine kF 7 (some 50) ((gM (v 4) 25 wS (R _) (by omega) (by omega)).mono ?_);rintro e w2 ⟨rfl,I⟩;rw[I];clear I w2;refine⟨_,rfl,⟨K,a8⟩,λhH=>?_⟩;simp only[pe,p5,p2];dsimp only [List.set];refine qT 8 (.int .u32 (o7 (v 4):Nat)) ?_;refine qT 9 (.int .u32 (A1:Nat)) ?_;refine qT 18 (.int .u32 (A2:Nat)) ?_;refine qT 22 (.int .u32 (A3:Nat)) ?_;refine qT 24 (.int .u32 (T:Nat)) ?_;refine qT 25 (.int .u32 (T:Nat)) ?_;refine kE (h:=?_);clear e1 e2 e3 e4 e5 e6 q1 q2 q3 q4 r6 c5 f0 hH;have r2:=bZ (n:=2) (R 0);have c6:=bZ (n:=13) (R 0);have e0:=bZ (n:=22) (R 0);have e1:=u32_xor_nat _ _ r2 c6;have e2:=u32_xor_nat _ _ (iF r2 c6) e0;rw[show(cX (v 0) 2 ^^^ cX (v 0) 13) ^^^ cX (v 0) 22=uD (v 0) from rfl] at e2;have e3:=u32_and_nat _ _ (R 0) (R 1);have e4:=u32_and_nat _ _ (R 0) (R 2);have e5:=u32_xor_nat (v 0 &&& v 1) (v 0 &&& v 2) (jO (R 1)) (jO (R 2));have e6:=u32_and_nat _ _ (R 1) (R 2);have e7:=u32_xor_nat ((v 0 &&& v 1) ^^^ (v 0 &&& v 2)) (v 1 &&& v 2) (iF (jO (R 1)) (jO (R 2))) (jO (R 2));rw[show((v 0 &&& v 1) ^^^ (v 0 &&& v 2)) ^^^ (v 1 &&& v 2)=EN (v 0) (v 1) (v 2) from rfl] at e7;obtain⟨U,hU⟩:=je (rt2 v);have q5:(((uD (v 0):Nat):Int)+(EN (v 0) (v 1) (v 2):Nat)) % 4294967296=(U:Int):=by rw[hU,ME,oD];omega
   obtain⟨D,hD⟩:=je (m32 (v 3+T));have q6:(((v 3:Nat):Int)+(T:Nat)) % 4294967296=(D:Int):=by rw[hD,oD];omega
   obtain⟨A,hA⟩:=je (m32 (T+U));have q7:((T:Int)+(U:Nat)) % 4294967296=(A:Int):=by rw[hA,oD];omega
   have f8:Hid (rg st b (k+1) 0=A/\rg st b (k+1) 4=D/\rg st b (k+1) 1=v 0/\rg st b (k+1) 2=v 1/\rg st b (k+1) 3=v 2/\rg st b (k+1) 5=v 4/\rg st b (k+1) 6=v 5/\rg st b (k+1) 7=v 6):=jz (by
    rw[sZ,<- HV.out,<- HX.out,hA,hD,hU,HT.out]
    exact BQ v k x)
   have f3:=jz (λW=>gM (v 0) 2 W (R 0) (by omega) (by omega));have f4:=jz (λW=>gM (v 0) 13 W (R 0) (by omega) (by omega));have f5:=jz (λW=>gM (v 0) 22 W (R 0) (by omega) (by omega));clear hU hD hA r2 c6 e0 R;go_wp2_with fail
   refine(f3 _).mono ?_;rintro e w2 ⟨rfl,I⟩;rw[I];clear I w2;go_wp2_with fail
   refine(f4 _).mono ?_;rintro e w2 ⟨rfl,I⟩;rw[I];clear I w2;go_wp2_with fail
   refine(f5 _).mono ?_;rintro e w2 ⟨rfl,I⟩;rw[I];clear I w2;go_wp2_with fail
   obtain⟨g0,g4,g1,g2,g3,g5,g6,g7⟩:=f8.out;refine⟨⟨k+1,by omega,by go_num,by rw[g0,<- q7],by rw[g1],by rw[g2],by rw[g3],by rw[g4,<- q6],by rw[g5],by rw[g6],by rw[g7],K⟩,by simp[intOf];omega⟩
  ·have h3:k=64:=by omega
   have h6:¬(k:Int)<64:=by omega
   have c9:=HR;clear HR;go_wp2_with fail
   obtain⟨O,hO⟩:∃ O:Wa,O=#[.int .u32 (v 0:Nat),.int .u32 (v 1:Nat),.int .u32 (v 2:Nat),.int .u32 (v 3:Nat),.int .u32 (v 4:Nat),.int .u32 (v 5:Nat),.int .u32 (v 6:Nat),.int .u32 (v 7:Nat)]:=⟨_,rfl⟩;rw[<- hO];have HO:Hid (∀ j,j<8->O[j]? = some (.int .u32 (v j:Nat))):=jz (λj hj=>by
    rw[hO]
    have:j=0\/j=1\/j=2\/j=3\/j=4\/j=5\/j=6\/j=7:=by omega
    rcases this with rfl|rfl|rfl|rfl|rfl|rfl|rfl|rfl <;> rfl)
   clear hO;have d0:Hid (SBh w wr g b (λq=>if q<0 then cZ st b q else st q)):=jz (c9.fn (by funext q;rw[jQ (by omega)]));clear c9;go_loopw [110] (λi wr=>∃ j:Nat,j<=8/\i = .int .i64 (j:Int)/\Hid (SBh w wr g b (λq=>if q<j then cZ st b q else st q))) (λi _=>8-(intOf i).toNat)
   case atStart=>exact⟨0,j0 _,rfl,d0⟩
   case round=>
    clear d0;obtain⟨j,hj,rfl,HS⟩:=hrel;rcases jo j 8 with c2|h5
    ·have k0:(0:Int)<=j:=by omega
     have k1:(j:Int)<8:=by omega
     have d3:O[j]? = some (.int .u32 (v j:Nat)):=HO.out j c2;have d1:∀ W,(Instr.index 231 (.agg O) (.int .i64 (j:Int))).run prog W = .ok (.int .u32 (v j:Nat)) W:=fA _ j underlying231 c2 (λw=>by kernel_rfl) (λw=>by kernel_rfl) d3;have hc:=HS.p.cell (i:=j) c2;have hf:=HS.p.frozen j;have hz:c32 (λq=>if q<j then cZ st b q else st q) j = .int .u32 (st j:Nat):=by
      show Value.int .u32 ((if j<j then cZ st b j else st j:Nat):Int)=_;rw[jQ (Nat.lt_irrefl j)]
     rw[hz] at hc;have hb:cZ st b j=m32 (st j+v j):=by unfold cZ;rw[HV.out,h3]
     obtain⟨X,V⟩:=je (cZ st b j);have a7:=jz (HS.set j (cZ st b j));rw[<- V] at hb a7;have q1:(((st j:Nat):Int)+(v j:Nat)) % 4294967296=(X:Int):=by rw[hb,oD];omega
     rw[<- q1] at a7;have g8:=jz (a7.fn (f':=λq=>if q<j+1 then cZ st b q else st q) (by
      funext q
      show(if q=j then X else (if q<j then cZ st b q else st q))=_
      by_cases e:q=j
      ·subst e;rw[jP rfl,jP (by omega),V]
      ·rw[jQ e]
       by_cases e2:q<j
       ·rw[jP e2,jP (by omega)]
       ·rw[jQ e2,jQ (by omega)]))
     clear d3 hz hb V HS a7 q1;go_wp2_with fail
     exact⟨⟨j+1,by omega,by go_num,g8⟩,by simp[intOf];omega⟩
    ·have e8:j=8:=by omega
     have k2:¬(j:Int)<8:=by omega
     have f7:Hid (AB wr g 231 8 (c32 (cZ st b))):=jz (HS.p.ext (λq hq=>by
      show Value.int .u32 ((if q<j then cZ st b q else st q:Nat):Int) = .int .u32 (cZ st b q:Nat)
      rw[jP (by omega)]))
     have f2:Blk wr (g+1+1) 231 z32x8:=HS.r;have c7:=jz (And.intro HS.be HS.lo);have a3:=f7.range;have hI:(prog.info? 231).map (·.size)=some (arr 8 (c32 (cZ st b))).length:=by rw[aA];kernel_rfl
     obtain⟨M,hM⟩:=je (arr 8 (c32 (cZ st b)));rw[<- hM] at a3 hI;have a5:(prog.info? 231).map (·.size)=some M.toArray.size:=by rw[js];exact hI
     have a9:z32x8.size=M.toArray.size:=by rw[hM,aC];exact aC 8 _
     have a6:M.toArray.all (·.oneCell')=true:=by rw[hM];exact aP (λ_=>rfl)
     have HM:=jz hM;clear hM HS;go_wp2_with (first
      | (refine ld 231 _ rfl rfl rfl a3 underlying231 rfl hI ?_)
      | (refine aN 231 (.tmp 4) (.tmp 121) rfl rfl rfl rfl f2 a5 a9 a6 ?_;intro w3 a2 a4 _ _;have a1:=jz a2;have f6:=jz a4;clear a2 a4))
     exact bodyPost_ret (results_cell_row rfl _ _ (g+1+1) 231 _ (0,0) _ rfl a1 underlying231 rfl a5) rfl ⟨by rw[<- HM.out],c7.out.1.trans (f6.mono (by have:=c7.out.2;omega))⟩
def iC(n:Nat):Nat:=(119-n % 64) % 64
def dY(n:Nat):Nat:=1+iC n+8
def lA(n m k:Nat):Nat:=if k=0 then 128 else if dY n-m<=k then 8*n/256 ^ (dY n-1-k) % 256 else 0
def sK(n:Nat):Nat->Nat:=lA n 8
theorem GX(n m k:Nat):lA n m k<256:=by
 unfold lA;split
 ·omega
 ·split
  ·exact Nat.mod_lt _ (by omega)
  ·omega
theorem JI(n m:Nat)(h:m<8):aY (lA n m) (dY n-1-m) (8*n/256 ^ m % 256)=lA n (m+1):=by
 funext k
 have D:9<=dY n:=by unfold dY;omega
 unfold aY lA;by_cases e:k=dY n-1-m
 ·rw[jP e,jQ (by omega),jP (by omega)];rw[show dY n-1-k=m from by omega]
 ·rw[jQ e];by_cases e0:k=0
  ·rw[jP e0,jP e0]
  ·rw[jQ e0,jQ e0];by_cases e1:dY n-m<=k
   ·rw[jP e1,jP (by omega)]
   ·rw[jQ e1,jQ (by omega)]
theorem MG(n m:Nat)(I:m<=8)(J:8*n/256 ^ m=0):lA n m=sK n:=by
 funext k
 unfold sK lA;by_cases e0:k=0
 ·rw[jP e0,jP e0]
 ·rw[jQ e0,jQ e0];by_cases e1:dY n-m<=k
  ·rw[jP e1,jP (by omega)]
  ·rw[jQ e1];split
   ·have h1:256 ^ m<=256 ^ (dY n-1-k):=Nat.pow_le_pow_right (by omega) (by omega);have D:8*n<256 ^ m:=by
     rcases jo (8*n) (256 ^ m) with h|h
     ·exact h
     ·have:=Nat.div_pos h (Nat.pow_pos (n:=m) (by omega:0<256));omega
    rw[Nat.div_eq_of_lt (by omega)]
   ·rfl
theorem BR(n:Nat)(w:Wd)(hn:n<=1000000000):
  Wc 134 #[.int .i64 n] w λe w'=>∃ v,e = .returned v/\w'.ownsRow w.heap.size 5 1 v (dY n) (arr (dY n) (c8 (sK n)))/\Bw w w':=by
 have c6:(0:Int)<=n:=by omega
 have c7:(n:Int)<=1000000000:=by omega
 obtain⟨i,hi,hz,b7,b2⟩:=info_parts (P:=prog) (e:=5) (z:=.int .u8 0) (size:=1) (bytes:=1) (by kernel_rfl);obtain⟨N,hN⟩:=je (dY n);have HN:=jz hN;have c2:9<=N/\N<=72:=by rw[hN];unfold dY iC;omega
 have a7:Hid (1+((119:Int)-(n:Int) % 64) % 64+8=(N:Int)):=jz (by rw[hN];unfold dY iC;omega);have I:(madeCells (Value.int .u8 0).cells (N*1)).toList=arr N (c8 (λ_=>0)):=by
  show(madeCells #[Value.int .u8 0] (N*1)).toList=_;rw[nW];unfold arr c8;rw[List.map_const',List.length_range];simp
 have a1:=jz I;clear I hN;rw[<- HN.out];go_enter func134,ntmps134
 go_upto_region 4 with fail
 obtain⟨z,a0⟩:∃ z:Int,z=((119:Int)-(n:Int) % 64) % 64:=⟨_,rfl⟩;have d1:1+z+8=(N:Int):=by rw[a0];exact a7.out
 have d0:0<=z/\z<64:=by omega
 rw[<- a0];clear a0;have a5:(arr N (c8 (λ_=>0))).set 0 (.int .u8 128)=arr N (c8 (lA n 0)):=by
  rw[sX];refine iM (λk hk=>?_);rw[show(Value.int .u8 128)=Value.int .u8 ((128:Nat):Int) from rfl,cY];show Value.int .u8 ((aY (λ_=>0) 0 128 k:Nat):Int)=Value.int .u8 ((lA n 0 k:Nat):Int);congr 2;unfold aY lA;by_cases e:k=0
  ·rw[jP e,jP e]
  ·rw[jQ e,jQ e,jQ (by rw[<- HN.out];omega)]
 have a2:=jz a5;clear a5;go_upto_region 5 with (at_make;refine wpList_make_full _ rfl (.tmp 15) (.tmp 15) 60 rfl w.heap.size 5 i (.int .u8 0) 1 underlying60 hi hz b7 .i64 .i64 (N:Int) (N:Int) N rfl rfl rfl rfl (by rw[b2];omega) (by unfold maxLen;omega) (ja _) ?_;intro w2 J hg)
 rw[a1.out] at J;have D:=J.stored 0 (.int .u8 128);rw[a2.out] at D;obtain⟨K,a4⟩:=pX J (dC (c8 (λ_=>0)) (show 0<N by omega));have K:w2.cell? ⟨w.heap.size,0,none⟩=some (.int .u8 0):=K;have U:Hid (Bw w w2):=jz ((ji _ w).grown hg (ja _) (λg e=>by cases e));obtain⟨w3,Z⟩:=je (w2.setCell ⟨w.heap.size,0,none⟩ (.int .u8 128));have a3:Hid (w3.ownsRow w.heap.size 5 1 (.slice (some ⟨w.heap.size,0,none⟩) N N) N (arr N (c8 (lA n 0)))/\Bw w w3):=jz (by
  rw[Z]
  exact⟨D.1,U.grown D.2 U.size (λg e=>by cases e;exact ja _)⟩)
 have b9:(0:Int)<(N:Int):=by omega
 clear D J hg U a2 a1;go_upto_region 6 with fail
 rw[<- Z];clear Z K a4;have c9:(8*(n:Int))<18446744073709551616:=by omega
 have c3:(N:Int)-1<72:=by omega
 go_wp2_with fail
 go_loopw [6,5] (λi y wr=>∃ m:Nat,m<=8/\i = .int .i64 ((N:Int)-1-m)/\y = .int .u64 ((8*n/256 ^ m:Nat):Int)/\Hid (wr.ownsRow w.heap.size 5 1 (.slice (some ⟨w.heap.size,0,none⟩) N N) N (arr N (c8 (lA n m)))/\Bw w wr)) (λi _ _=>(intOf i).toNat)
 case atStart=>exact⟨0,j0 _,by simp,by simp,a3⟩
 case round=>
  clear a3;obtain⟨m,hm,rfl,rfl,O⟩:=hrel;obtain⟨L,R⟩:∃ L,L=8*n/256 ^ m:=⟨_,rfl⟩;have V:L/256=8*n/256 ^ (m+1):=by rw[R,Nat.div_div_eq_div_mul,Nat.pow_succ]
  have b0:L<=8*n:=by rw[R];exact Nat.div_le_self _ _
  rw[<- R];rcases Nat.eq_zero_or_pos L with h0|h0
  ·have hf:lA n m=sK n:=MG n m hm (by rw[<- R];exact h0);rw[hf] at O;have b1:¬(0:Int)<L:=by omega
   clear V b0 R;go_wp2_with fail
   go_ret;exact⟨_,rfl,O.out.1,O.out.2⟩
  ·have b3:m<8:=by
    rcases jo m 8 with h|h
    ·exact h
    ·have e8:m=8:=by omega
     subst e8;have:8*n/256 ^ 8=0:=Nat.div_eq_of_lt (by have e:(256:Nat) ^ 8=18446744073709551616:=(by decide);omega);omega
   have D:=O.out.1.stored (N-1-m) (.int .u8 ((L % 256:Nat):Int));rw[sX,cY,HN.out,R,JI n m b3,<- HN.out,<- R] at D;obtain⟨K,a4⟩:=pX O.out.1 (dC (c8 (lA n m)) (show N-1-m<N by omega));have a6:c8 (lA n m) (N-1-m) = .int .u8 0:=by
    show Value.int .u8 ((lA n m (N-1-m):Nat):Int)=_;unfold lA;rw[jQ (by omega),jQ (by rw[<- HN.out];omega)];rfl
   rw[a6] at K;have e1:((L % 256:Nat):Int)=(L:Int) % 256:=by omega
   rw[e1] at D;have a9:Hid ((wr.setCell ⟨w.heap.size,N-1-m,none⟩ (.int .u8 ((L:Int) % 256))).ownsRow w.heap.size 5 1 (.slice (some ⟨w.heap.size,0,none⟩) N N) N (arr N (c8 (lA n (m+1))))/\Bw w (wr.setCell ⟨w.heap.size,N-1-m,none⟩ (.int .u8 ((L:Int) % 256)))):=jz ⟨D.1,O.out.2.grown D.2 O.out.2.size (λg e=>by cases e;exact ja _)⟩;have b1:(0:Int)<L:=by omega
   have c4:(0:Int)<=(N:Int)-1-m:=by omega
   have c5:(N:Int)-1-m<N:=by omega
   have a8:Hid ((L:Int)/256=((8*n/256 ^ (m+1):Nat):Int)):=jz (by rw[<- V];omega);clear D a6 e1 O R V;go_wp2_with fail
   refine⟨⟨m+1,by omega,by go_num,by rw[a8.out],a9⟩,by simp[intOf];omega⟩
def n8(l:List Nat):Wv:=l.map (λx:Nat=>Value.int .u8 (x:Int))
def Byn(l:List Nat):Prop:=∀ x∈l,x<256
def nth(l:List Nat)(k:Nat):Nat:=l.getD k 0
theorem aJ(l:List Nat):(n8 l).length=l.length:=by simp[n8]
theorem oE(l:List Nat)(k:Nat)(h:k<l.length):(n8 l)[k]? = some (.int .u8 (nth l k:Nat)):=by
 unfold n8 nth;rw[List.getElem?_map,List.getElem?_eq_getElem h,jn,List.getElem?_eq_getElem h];rfl
theorem bK(l:List Nat):∀ u∈n8 l,u.oneCell'=true:=λu D=>by
 obtain⟨x,_,rfl⟩:=List.mem_map.1 D;rfl
theorem s6(l:List Nat)(k:Nat):(n8 l).take k=n8 (l.take k):=by simp[n8,List.map_take]
theorem QQ(l:List Nat)(k:Nat):(n8 l).drop k=n8 (l.drop k):=by simp[n8,List.map_drop]
theorem dI{l:List Nat}(h:Byn l)(k:Nat):nth l k<256:=by
 unfold nth;rw[jn];cases hk:l[k]? with
 | none=>decide
 | some x=>exact h x (List.mem_of_getElem? hk)
theorem s7{n k:Nat}(f:Nat->Nat)(h:k<n):nth (arr n f) k=f k:=by
 unfold nth;rw[jn,dC f h];rfl
theorem lO(n:Nat)(f:Nat->Nat):n8 (arr n f)=arr n (c8 f):=by simp[n8,arr,c8]
theorem mP{a b:List Nat}{k:Nat}(h:k<a.length):nth (a++b) k=nth a k:=by
 unfold nth;rw[jn,jn,jy h]
theorem xO{a b:List Nat}{k:Nat}(h:a.length<=k):nth (a++b) k=nth b (k-a.length):=by
 unfold nth;rw[jn,jn,jx h]
theorem BS{b D:Nat->Nat}(i:Nat)(hi:i<16)(h:∀ k,k<64->b k=D k):∀ j,j<=4->pw b i j=pw D i j
 | 0,_=>rfl
 | j+1,hj=>by
  show pw b i j*256+b (4*i+j)=pw D i j*256+D (4*i+j);rw[BS i hi h j (by omega),h _ (by omega)]
theorem MH{b I:Nat->Nat}(h:∀ k,k<64->b k=I k)(k:Nat):wk b k=wk I k:=by
 induction k using Nat.strongRecOn with
 | ind k ih=>
  rcases jo k 16 with D|D
  ·rw[BM b D,BM I D,BS k D h 4 (ja _)]
  ·rw[BO b D,BO I D,ih (k-16) (by omega),ih (k-15) (by omega),ih (k-7) (by omega),ih (k-2) (by omega)]
theorem BT{b D:Nat->Nat}(st:Nat->Nat)(h:∀ k,k<64->b k=D k):∀ k,rg st b k=rg st D k
 | 0=>by rw[rg,rg]
 | k+1=>by rw[sZ,sZ,BT st h k,MH h k]
theorem xP{b D:Nat->Nat}(st:Nat->Nat)(h:∀ k,k<64->b k=D k):cZ st b=cZ st D:=by
 funext i
 unfold cZ;rw[BT st h 64]
def o8(s:Nat->Nat)(l:List Nat):Nat->(Nat->Nat)
 | 0=>s
 | m+1=>cZ (o8 s l m) (λk=>nth l (64*m+k))
theorem mQ(s:Nat->Nat)(l x:List Nat):∀ m,64*m<=l.length->o8 s (l++x) m=o8 s l m
 | 0,_=>rfl
 | m+1,h=>by
  show cZ (o8 s (l++x) m) (λk=>nth (l++x) (64*m+k))=cZ (o8 s l m) (λk=>nth l (64*m+k));rw[mQ s l x m (by omega)];exact xP _ (λk D=>mP (by omega))
theorem GY{s:Nat->Nat}(h:WsF s)(l:List Nat):∀ m,WsF (o8 s l m)
 | 0=>h
 | m+1=>QP _ _
def lB(i:Nat):Nat:=[1779033703,3144134277,1013904242,2773480762,1359893119,2600822924,528734635,1541459225].getD i 0
theorem GZ:WsF lB:=λi=>by
 unfold lB;rw[jn];cases h:([1779033703,3144134277,1013904242,2773480762,1359893119,2600822924,528734635,1541459225]:List Nat)[i]? with
 | none=>decide
 | some x=>
  have D:=List.mem_of_getElem? h;have ha:∀ x∈([1779033703,3144134277,1013904242,2773480762,1359893119,2600822924,528734635,1541459225]:List Nat),x<4294967296:=by decide
  exact ha x D
def gU(l:List Nat):Nat->Nat:=o8 lB l (l.length/64)
theorem G0(l:List Nat):WsF (gU l):=GY GZ l _
theorem JJ(l x:List Nat)(h:l.length % 64+x.length<64):gU (l++x)=gU l:=by
 unfold gU;rw[jj,show(l.length+x.length)/64=l.length/64 from by omega];exact mQ _ _ _ _ (by omega)
theorem JK(l x:List Nat)(b:Nat->Nat)(h:l.length % 64+x.length=64)(hb:∀ k,k<64->b k=nth (l++x) (64*(l.length/64)+k)):gU (l++x)=cZ (gU l) b:=by
 unfold gU;rw[jj,show(l.length+x.length)/64=l.length/64+1 from by omega];show cZ (o8 lB (l++x) (l.length/64)) (λk=>nth (l++x) (64*(l.length/64)+k))=_;rw[mQ _ _ _ _ (by omega)];exact xP _ (λk D=>(hb k D).symm)
def fB(s:Nat->Nat)(q:Nat):Nat:=s (q/4)/256 ^ (3-q % 4) % 256
def iD(l:List Nat):List Nat:=arr 32 (fB (gU (l++arr (dY l.length) (sK l.length))))
theorem bL(l:List Nat):(iD l).length=32:=aA _ _
theorem gV(l:List Nat):Byn (iD l):=λx D=>by
 unfold iD arr at D;obtain⟨k,_,rfl⟩:=List.mem_map.1 D;exact Nat.mod_lt _ (by omega)
attribute [irreducible] gU iD
section
variable {P : Program} {ops : Array Oper} {rest : List Oper} {o : Oper} {a : Act} {w : Wd} {Q : Exit -> Act -> Wd -> Prop}
theorem cpm{dT sT elem:TypeId}(p q:Operand)(O:o.op = .call { callee:=.builtin .copy,args:=#[p,q],argTypes:=#[dT,sT] })(Z:Region.wanted o (yielded ops a.tmps)=true)
  {b off dn dc bs os n cap:Nat} {cs:Wv} (R:a.eval p = .slice (some ⟨b,off,none⟩) dn dc) (U:a.eval q = .slice (some ⟨bs,os,none⟩) n cap) (V:P.underlying dT=some (.slice elem)) (hs:(P.info? elem).map (·.size)=some 1) (J:cs.length=Nat.min n dn) (hx:w.rangeAt bs os cs) (ht:w.there b off cs.length) (h1:∀ u∈cs,u.oneCell'=true)
  (h:wpList P ops Q rest (a.put o.dst (.int .i64 (cs.length:Nat))) (w.setCells b off cs)):wpList P ops Q (o :: rest) a w:=
 wpList_step λK I=>by
  rw[jP Z];have hrun:=run_copy_cells (P:=P) w dT sT o.type elem b off dn dc ⟨bs,os,none⟩ n cap cs V hs J (λj v D=>by rw[Addr.add_mid];exact hx j v D) (λj D=>(ht j D).1) (λj D=>(ht j D).2) h1;unfold Oper.wp execOp;simp only[O,resolve,invoke,builtin,Sem.run_bind,Sem.run_pure,Result.andThen_ok,List.map_toArray,List.map_cons,List.map_nil,R,U,hrun];exact I _ _ h
end
theorem Sn.sameC{w w':Wd}{s n:Nat}{v:Value}{I:Wv}(h:Sn w s v n I)(R:0<n->∀ b,v.ownBlock=some b->w'.heap[b]? = w.heap[b]?):Sn w' s v n I:=by
 obtain⟨A,cap,rfl,h1,J,U⟩:=h;refine⟨A,cap,rfl,h1,J,λD=>?_⟩;obtain⟨g,off,rfl,K⟩:=U D;exact⟨g,off,rfl,λj u O=>(World.cell?_of_block (a:=⟨g,off+j,none⟩) (R D g rfl)).trans (K j u O)⟩
theorem AB.setL:∀(c:List Nat) {W:Wd} {g n off:Nat} {t:TypeId} {f:Nat->Nat},AB W g t n (c8 f)->AB (W.setCells g off (n8 c)) g t n (c8 (λk=>if off<=k/\k<off+c.length then nth c (k-off) else f k))
 | [],W,g,n,off,t,f,h=>h.ext (λk _=>by
   show Value.int .u8 (f k:Nat)=Value.int .u8 ((if off<=k/\k<off+0 then nth [] (k-off) else f k:Nat):Int)
   rw[jQ (by omega)])
 | x :: r,W,g,n,off,t,f,h=>by
  have h1:=h.set off (.int .u8 (x:Nat));rw[cY] at h1;have D:=AB.setL r (off:=off+1) h1;refine AB.ext D (λk _=>?_);show Value.int .u8 ((if off+1<=k/\k<off+1+r.length then nth r (k-(off+1)) else aY f off x k:Nat):Int)=Value.int .u8 ((if off<=k/\k<off+(r.length+1) then nth (x :: r) (k-off) else f k:Nat):Int);congr 2;by_cases e:k=off
  ·subst e;rw[jQ (by omega),mO,jP (by omega),Nat.sub_self];rfl
  ·rw[EM _ _ e];by_cases e2:off+1<=k/\k<off+1+r.length
   ·rw[jP e2,jP (by omega),show k-off=(k-(off+1))+1 from by omega];rfl
   ·rw[jQ e2,jQ (by omega)]
structure FH(gz:Nat)(w0 W:Wd)(g:Nat)(S bl:Nat->Nat)(u tot:Nat):Prop where
 be:Bw w0 W
 lo:w0.heap.size<=g
 zl:gz<=g
 z:AB W gz 23 32 (c8 λ_=>0)
 s:AB W (g+1) 231 8 (c32 S)
 b:AB W (g+1+1) 195 64 (c8 bl)
 by_:aQ bl
 u:Blk W (g+1+1+1) 3 #[.int .i64 (u:Nat)]
 t:Blk W (g+1+1+1+1) 3 #[.int .i64 (tot:Nat)]
section
variable {w0 W W' : Wd} {gz g u tot : Nat} {S bl : Nat -> Nat}
theorem FH.keep(h:FH gz w0 W g S bl u tot)(hb:Bw W W'):FH gz w0 W' g S bl u tot:=⟨h.be.trans (hb.mono h.be.size),h.lo,h.zl,h.z.keep hb,h.s.keep hb,h.b.keep hb,h.by_,h.u.keep hb,h.t.keep hb⟩
theorem FH.setT(h:FH gz w0 W g S bl u tot)(v:Nat):FH gz w0 (W.setCell ⟨g+1+1+1+1,0,none⟩ (.int .i64 (v:Nat))) g S bl u v:=
 ⟨h.be.setCell (by have:=h.lo;show w0.heap.size<=g+1+1+1+1;omega) _,h.lo,h.zl,h.z.far (by have:=h.zl;show gz≠g+1+1+1+1;omega) _,h.s.far (by show g+1≠g+1+1+1+1;omega) _,h.b.far (by show g+1+1≠g+1+1+1+1;omega) _,h.by_,h.u.far (by show g+1+1+1≠g+1+1+1+1;omega) _,h.t.set_ 0 _⟩
theorem FH.setU(h:FH gz w0 W g S bl u tot)(v:Nat):FH gz w0 (W.setCell ⟨g+1+1+1,0,none⟩ (.int .i64 (v:Nat))) g S bl v tot:=
 ⟨h.be.setCell (by have:=h.lo;show w0.heap.size<=g+1+1+1;omega) _,h.lo,h.zl,h.z.far (by have:=h.zl;show gz≠g+1+1+1;omega) _,h.s.far (by show g+1≠g+1+1+1;omega) _,h.b.far (by show g+1+1≠g+1+1+1;omega) _,h.by_,h.u.set_ 0 _,h.t.far (by show g+1+1+1+1≠g+1+1+1;omega) _⟩
theorem FH.setB(h:FH gz w0 W g S bl u tot)(c:List Nat)(off:Nat)(I:Byn c):FH gz w0 (W.setCells (g+1+1) off (n8 c)) g S (λk=>if off<=k/\k<off+c.length then nth c (k-off) else bl k) u tot:=
 have D:∀ k,k≠g+1+1->(W.setCells (g+1+1) off (n8 c)).heap[k]? = W.heap[k]?:=λk J=>bF J _ _ _
 ⟨h.be.trans (aU (by have:=h.lo;omega) _ _ _).1,h.lo,h.zl,(D gz (by have:=h.zl;omega)).trans h.z,(D (g+1) (by omega)).trans h.s,h.b.setL c,λk=>by
  show(if off<=k/\k<off+c.length then nth c (k-off) else bl k)<256
  split
  ·exact dI I _
  ·exact h.by_ k,(D _ (by omega)).trans h.u,(D _ (by omega)).trans h.t⟩
theorem FH.setS(h:FH gz w0 W g S bl u tot)(I:Nat->Nat)(J:Blk W' (g+1) 231 (arr 8 (c32 I)).toArray)(hb:Below (g+1) W W')(D:∀ k,k≠g+1->W'.heap[k]? = W.heap[k]?):FH gz w0 W' g I bl u tot:=
 ⟨h.be.trans (hb.mono (by have:=h.lo;omega)),h.lo,h.zl,(D gz (by have:=h.zl;omega)).trans h.z,J,(D _ (by omega)).trans h.b,h.by_,(D _ (by omega)).trans h.u,(D _ (by omega)).trans h.t⟩
end
def FSh(gz:Nat)(w0 W:Wd)(g:Nat)(D:List Nat)(tot:Nat):Prop:=∃ bl,FH gz w0 W g (gU D) bl (D.length % 64) tot/\∀ k,k<D.length % 64->bl k=nth D (64*(D.length/64)+k)
theorem FSh.less{w0 W:Wd}{gz g tot:Nat}{D c:List Nat}{bl:Nat->Nat}(h:FH gz w0 W g (gU D) (λk=>if D.length % 64<=k/\k<D.length % 64+c.length then nth c (k-D.length % 64) else bl k) (D.length % 64+c.length) tot)(hb:∀ k,k<D.length % 64->bl k=nth D (64*(D.length/64)+k))(I:D.length % 64+c.length<64):FSh gz w0 W g (D++c) tot:=by
 refine⟨_,by rw[JJ D c I,jj,show(D.length+c.length) % 64=D.length % 64+c.length from by omega];exact h,λk J=>?_⟩;rw[jj] at J ⊢;rw[show(D.length+c.length)/64=D.length/64 from by omega];by_cases e:D.length % 64<=k/\k<D.length % 64+c.length
 ·rw[jP e,xO (by omega)];congr 1;omega
 ·rw[jQ e,mP (by omega)];exact hb k (by omega)
theorem FSh.full{w0 W:Wd}{gz g tot:Nat}{D c:List Nat}{bl I:Nat->Nat}(h:FH gz w0 W g (cZ (gU D) I) I 0 tot)(K:I=λk=>if D.length % 64<=k/\k<D.length % 64+c.length then nth c (k-D.length % 64) else bl k)(hb:∀ k,k<D.length % 64->bl k=nth D (64*(D.length/64)+k))(O:D.length % 64+c.length=64):FSh gz w0 W g (D++c) tot:=by
 have R:=JK D c I O (λk J=>by
  rw[K]
  show(if D.length % 64<=k/\k<D.length % 64+c.length then nth c (k-D.length % 64) else bl k)=_
  by_cases e:D.length % 64<=k/\k<D.length % 64+c.length
  ·rw[jP e,xO (by omega)]
   congr 1
   omega
  ·rw[jQ e,mP (by omega)]
   exact hb k (by omega))
 refine⟨I,by rw[R,jj,show(D.length+c.length) % 64=0 from by omega];exact h,λk J=>?_⟩;rw[jj] at J;omega
def slN:Value->Nat
 | .slice _ n _=>n
 | _=>0
structure FL(gz:Nat)(w0 W:Wd)(g:Nat)(A:List Nat)(tot:Nat)(v:Value)(E r:List Nat):Prop where
 e:E++r=A
 be:Byn E
 br:Byn r
 sn:Sn W 1 v r.length (n8 r)
 ow:0<r.length->∀ b,v.ownBlock=some b->b<g\/g+1+1+1+1<b
 fs:FSh gz w0 W g E tot
theorem BU(gz:Nat)(w0 w:Wd)(g tot:Nat)(D p:List Nat)(v:Value)(h:FSh gz w0 w g D tot)(hs:Sn w 1 v p.length (n8 p))(hd:Byn D)(hp:Byn p)(ho:0<p.length->∀ b,v.ownBlock=some b->b<g\/g+1+1+1+1<b)(hl:tot+p.length<=1000000000)(hk:TabK w0):
  Wc 132 #[v,.pointer (some ⟨g+1+1+1+1,0,none⟩),.pointer (some ⟨g+1+1,0,none⟩),.pointer (some ⟨g+1+1+1,0,none⟩),.pointer (some ⟨g+1,0,none⟩)] w λe w'=>e = .returned (.tuple #[])/\FSh gz w0 w' g (D++p) (tot+p.length):=by
 obtain⟨bl,J,R⟩:=h;have HK:=jz hk;have h7:w.cell? ⟨g+1+1+1+1,0,none⟩=some (.int .i64 (tot:Nat)):=(J.t.cell 0).trans rfl;have h9:=J.t.frozen 0;obtain⟨A,cap,rfl,c2,h2,a7⟩:=id hs;obtain⟨w1,b3⟩:=je (w.setCell ⟨g+1+1+1+1,0,none⟩ (.int .i64 ((tot:Int)+(p.length:Nat))));have c3:Hid (FL gz w0 w1 g (D++p) (tot+p.length) (.slice A p.length cap) D p):=jz ⟨rfl,hd,hp,hs.sameC (λk6 b e=>by
  rw[b3]
  exact Below.heap_setCell _ _ _ _ (by have:=ho k6 b e;show b≠g+1+1+1+1;omega)),ho,bl,by
  have:=J.setT (tot+p.length)
  rw[show((tot+p.length:Nat):Int)=(tot:Int)+(p.length:Nat) from by omega,<- b3] at this
  exact this,R⟩
 have k7:(0:Int)<=tot:=by omega
 have m1:(tot:Int)+(p.length:Nat)<=1000000000:=by omega
 clear J R hs hd hp ho a7;go_enter func132,ntmps132
 go_wp2_with fail
 rw[<- b3];clear b3 h7 h9 c2 h2;obtain⟨T,hT⟩:=je (tot+p.length);rw[<- hT] at c3;have HT:=jz hT;clear hT k7 m1 hl;go_loopw [0] (λv wr=>∃ E r,Hid (FL gz w0 wr g (D++p) T v E r)) (λv _=>slN v)
 case atStart=>exact⟨D,p,c3⟩
 case round=>
  clear c3;obtain⟨E,r,HF⟩:=hrel;obtain⟨A,cap,rfl,c2,_,a7⟩:=HF.sn;rcases Nat.eq_zero_or_pos r.length with h0|h0
  ·have f1:r=[]:=List.length_eq_zero_iff.1 h0;have d1:=HF.fs;have he:=HF.e;rw[f1,List.append_nil] at he;rw[he] at d1;have g0:=jz d1;rw[h0];clear f1 d1 he HF a7;go_wp2_with fail
   go_end0
   exact⟨rfl,by rw[<- HT.out];exact g0⟩
  ·obtain⟨bs,os,rfl,hx⟩:=a7 h0;obtain⟨bl,J,R⟩:=HF.fs;have m9:(0:Int)<(r.length:Nat):=by omega
   obtain⟨U,hU⟩:=je (E.length % 64);have m2:U<64:=by omega
   rw[<- hU] at J R;have a6:=jz J;have a4:=jz R;have HU:=jz hU;have h8:wr.cell? ⟨g+1+1+1,0,none⟩=some (.int .i64 (U:Nat)):=(J.u.cell 0).trans rfl;have k0:=J.u.frozen 0;obtain⟨c,hc⟩:=je (r.take (min r.length (64-U)));have e6:c.length=min r.length (64-U):=by rw[hc,jv];omega
   have e5:Byn c:=λx hx=>HF.br x (by rw[hc] at hx;exact j7 hx)
   have f3:wr.rangeAt bs os (n8 c):=λj u hj=>hx j u (by
    rw[hc,<- s6,List.getElem?_take] at hj
    split at hj
    ·exact hj
    ·cases hj)
   have d2:(n8 c).length=Nat.min r.length (64-U):=by rw[aJ];exact e6
   have f8:wr.there (g+1+1) U (n8 c).length:=λj hj=>⟨by
    rw[aJ] at hj
    rw[a6.b.cell (i:=U+j) (by omega)]
    rfl,a6.b.frozen _⟩
   have HC:=jz hc;obtain⟨M,hM⟩:=je ((n8 c).length);have a9:c.length=M:=by rw[hM,aJ]
   have m6:M<=r.length/\M<=64-U/\0<M/\(M=64-U\/M=r.length):=by omega
   have HM:Hid (Nat.min r.length (64-U)=M):=jz (d2.symm.trans hM.symm);have h5:prog.arrayLen 195=64:=by kernel_rfl
   have n0:(0:Int)<=U:=by omega
   have n1:(U:Int)<=64:=by omega
   have k5:¬64=U:=by omega
   have c6:=jz hx;clear J R hU hx hc hM e6;go_upto_region 3 with (refine cpm (.tmp 15) (.tmp 16) rfl (by rfl) (cs:=n8 c) (b:=g+1+1) (off:=U) (dn:=64-U) (dc:=64-U) (by rfl) (by rfl) underlying60 (by kernel_rfl) d2 f3 f8 (bK c) ?_)
   rw[HM.out];obtain⟨w2,a2⟩:=je (wr.setCells (g+1+1) U (n8 c));have m5:=jz a2;rw[<- a2];have V:=a6.setB c U e5;rw[<- a2] at V;obtain⟨b2,c9⟩:∃ b,b=λk=>if U<=k/\k<U+c.length then nth c (k-U) else bl k:=⟨_,rfl⟩
   rw[<- c9] at V;have a3:=jz c9;have d4:=jz V;have g1:Hid (∀ k,k≠g+1+1->w2.heap[k]? = wr.heap[k]?):=jz (λk hk=>by rw[a2];exact bF hk _ _ _);have e7:w2.cell? ⟨g+1+1+1,0,none⟩=some (.int .i64 (U:Nat)):=(V.u.cell 0).trans rfl;have e8:=V.u.frozen 0;have k2:(0:Int)<=M:=by omega
   have k3:(M:Int)<=r.length:=by omega
   have k4:(M:Int)<=64:=by omega
   clear a2 V c9 h8 k0 f3 d2 f8 h5 k5 a6;go_upto_region 5 with fail
   obtain⟨w3,b7⟩:=je (w2.setCell ⟨g+1+1+1,0,none⟩ (.int .i64 ((U:Int)+M)));obtain⟨A3,a8⟩:=je ((if cap=M then some (⟨bs,os,none⟩:Addr) else some ⟨bs,os+M,none⟩));rw[<- b7,<- a8];have d0:=d4.setU (U+M);rw[show((U+M:Nat):Int)=(U:Int)+M from by omega,<- b7] at d0;have I:=jz d0;have h6:=HF.ow h0 bs rfl;have e4:bs<wr.heap.size:=by
    have:=c6.out 0 _ (oE r 0 h0);exact eQ this
   have f0:w3.heap[bs]? = wr.heap[bs]?:=by
    rw[b7];exact(Below.heap_setCell _ _ _ _ (by show bs≠g+1+1+1;omega)).trans (g1 bs (by omega))
   have d7:Hid (∀ W:Wd,W.heap[bs]? = wr.heap[bs]?->Sn W 1 (.slice A3 (r.length-M) (cap-M)) (r.drop M).length (n8 (r.drop M))):=jz (λW hW=>by
    have e:(r.drop M).length=r.length-M:=List.length_drop ..
    rw[e]
    refine⟨A3,cap-M,rfl,by omega,by rw[aJ,e];omega,λhp=>⟨bs,os+M,by rw[a8,jQ (by omega)],λj u hj=>?_⟩⟩
    rw[<- QQ,List.getElem?_drop] at hj
    have:=c6.out (M+j) u hj
    rw[show os+M+j=os+(M+j) from by omega]
    exact(World.cell?_of_block (a:=⟨bs,os+(M+j),none⟩) hW).trans this)
   have d5:Hid (∀ b,(Value.slice A3 (r.length-M) (cap-M)).ownBlock=some b->b<g\/g+1+1+1+1<b):=jz (λb e=>by
    rw[a8] at e
    have:b=bs:=by
     split at e
     ·injection e with e;exact e.symm
     ·injection e with e;exact e.symm
    rw[this];exact h6)
   have K:Hid ((E++c)++r.drop M=D++p/\Byn (E++c)/\Byn (r.drop M)):=jz ⟨by
    rw[HC.out,show min r.length (64-U)=M from HM.out,List.append_assoc,List.take_append_drop]
    exact HF.e,λx hx=>(List.mem_append.1 hx).elim (HF.be x) (e5 x),λx hx=>HF.br x (List.mem_of_mem_drop hx)⟩
   have Z:=jz (And.intro f0 e4);clear b7 a8 d0 f0 e7 e8 c6 d4;rcases jo (U+M) 64 with k1|m8
   ·have a0:FSh gz w0 w3 g (E++c) T:=FSh.less (bl:=bl) (by
     have:=I.out
     rw[a3.out] at this
     rw[<- HU.out,a9]
     rw[a9] at this
     exact this) (by rw[<- HU.out];exact a4) (by rw[<- HU.out,a9];exact k1)
    have c5:Hid (FL gz w0 w3 g (D++p) T (.slice A3 (r.length-M) (cap-M)) (E++c) (r.drop M)):=jz ⟨K.out.1,K.out.2.1,K.out.2.2,d7 w3 Z.out.1,λ_=>d5.out,a0⟩;have f9:¬((U:Int)+M=64):=by omega
    have a1:w3.cell? ⟨g+1+1+1,0,none⟩=some (.int .i64 ((U:Int)+M)):=(I.u.cell 0).trans (by show some (Value.int .i64 ((U+M:Nat):Int))=_;congr 2);clear a0 I a3 a4;go_wp2_with fail
    exact⟨⟨E++c,r.drop M,c5⟩,by show r.length-M<r.length;omega⟩
   ·have h4:U+M=64:=by omega
    have f9:(U:Int)+M=64:=by omega
    have a1:w3.cell? ⟨g+1+1+1,0,none⟩=some (.int .i64 ((U:Int)+M)):=(I.u.cell 0).trans (by show some (Value.int .i64 ((U+M:Nat):Int))=_;congr 2);rw[f9] at a1;have f4:=I.s.range;have f2:=I.b.range;have e1:(prog.info? 231).map (·.size)=some (arr 8 (c32 (gU E))).length:=by rw[aA];kernel_rfl
    have e2:(prog.info? 195).map (·.size)=some (arr 64 (c8 b2)).length:=by rw[aA];kernel_rfl
    clear k2 k3 k4;go_wp2_with (first
     | (refine ld 231 _ rfl rfl rfl f4 underlying231 rfl e1 ?_)
     | (refine ld 195 _ rfl rfl rfl f2 underlying195 rfl e2 ?_))
    refine(JH (gU E) b2 w3 (G0 E) I.by_ (HK.below I.be)).mono ?_;rintro e w4 ⟨rfl,b0⟩;have c4:=jz (I.keep b0);have e0:Blk w4 (g+1) 231 (arr 8 (c32 (gU E))).toArray:=c4.s;have g2:Hid (w4.heap[bs]? = wr.heap[bs]?/\bs<w4.heap.size):=jz (by
     have h3:bs<w3.heap.size:=by
      rcases jo bs w3.heap.size with h|h
      ·exact h
      ·have h1:=Z.out.1
       rw[Array.getElem?_eq_none h,Array.getElem?_eq_getElem Z.out.2] at h1
       cases h1
     exact⟨(b0.block bs h3).trans Z.out.1,jp h3 b0.size⟩)
    obtain⟨O,hO⟩:=je ((arr 8 (c32 (cZ (gU E) b2))).toArray);have f5:(prog.info? 231).map (·.size)=some O.size:=by rw[hO,aC];kernel_rfl
    have f6:(arr 8 (c32 (gU E))).toArray.size=O.size:=by rw[hO,aC,aC]
    have f7:O.all (·.oneCell')=true:=by rw[hO];exact aP (λ_=>rfl)
    rw[<- hO];have HO:=jz hO;clear hO b0 f4 f2 e1 e2 I Z a1;go_upto_region 7 with (refine aN 231 (.tmp 4) (.tmp 28) rfl rfl rfl rfl e0 f5 f6 f7 ?_;intro w5 c7 e3 d3 _)
    rw[HO.out] at c7;have a5:=jz (c4.setS _ c7 e3 d3);have m3:w5.cell? ⟨g+1+1+1,0,none⟩=some (.int .i64 ((U+M:Nat):Int)):=(a5.u.cell 0).trans rfl;have m4:=a5.u.frozen 0;have g3:Hid (w5.heap[bs]? = wr.heap[bs]?):=jz ((d3 bs (by omega)).trans g2.out.1);have b1:=a5.setU 0;obtain⟨w6,b9⟩:=je (w5.setCell ⟨g+1+1+1,0,none⟩ (.int .i64 0));have b1:FH gz w0 w6 g (cZ (gU E) b2) b2 0 T:=by rw[b9];exact b1
    have a0:FSh gz w0 w6 g (E++c) T:=FSh.full (bl:=bl) b1 (by rw[<- HU.out];exact a3) (by rw[<- HU.out];exact a4) (by rw[<- HU.out,a9];exact h4);have c5:Hid (FL gz w0 w6 g (D++p) T (.slice A3 (r.length-M) (cap-M)) (E++c) (r.drop M)):=jz ⟨K.out.1,K.out.2.1,K.out.2.2,d7 w6 (by
     rw[b9]
     exact(Below.heap_setCell _ _ _ _ (by show bs≠g+1+1+1;omega)).trans g3),λ_=>d5.out,a0⟩
    have g8:=jz b9;clear a0 b1 a5 c4 a3 a4 e0 c7 e3 d3 f5 f6 f7 b9;go_wp2_with fail
    rw[<- g8.out];exact⟨⟨E++c,r.drop M,c5⟩,by show r.length-M<r.length;omega⟩
end
section
open Go.RowKit
section
variable {P : Program} {ops : Array Oper} {Q : Exit -> Act -> Wd -> Prop} {S : Wd -> Prop} {a : Act} {w : Wd} {listed : Array Bool} {fuel : Nat}
def kTwo(ops:Array Oper)(listed:Array Bool)(i j:Nat):Bool:=
 (Region.ready .any ops listed == [i,j]) && ((ops[i]?).map (λo=>o.guard.isNone)).any (· == true) && ((ops[j]?).map (λo=>o.guard.isNone)).any (· == true)
theorem jU{o:Oper}(h:o.guard=none)(D:Wa):Region.wanted o (yielded ops D)=true:=by
 unfold Region.wanted;rw[h]
theorem kTwo.out{i j:Nat}{D I:Oper}(hi:ops[i]? = some D)(J:ops[j]? = some I)(h:kTwo ops listed i j=true):
  Region.ready .any ops listed=[i,j]/\D.guard=none/\I.guard=none:=by
 unfold kTwo at h;simp only[Bool.and_eq_true,hi,J,Option.map_some,Option.any_some,beq_iff_eq,Option.isNone_iff_eq_none] at h;exact⟨h.1.1,h.1.2,h.2⟩
theorem uE{ty:TypeId}{zs:Wa}(I:∀ w,(zeroValue ty).run P w = .ok (.agg zs) w){o:Oper}(D:o.op = .alloc ty)(e:Operand->Value)(w:Wd):
  (execOp e o).run P w = .ok (.value (.pointer (some ⟨w.heap.size,0,none⟩))) (w.alloc (.cells zs ty)):=by
 unfold execOp;simp only[D];unfold Instr.alloc newVar newRow;simp only[Sem.run_bind,I,Result.andThen_ok];rfl
theorem kCA(i j:Nat)(Z dj:Option Tmp){U V:Oper}{f:FuncId}{args zs:Wa}{ty:TypeId}
  (hz:∀ w,(zeroValue ty).run P w = .ok (.agg zs) w)
  (h1:Calls P f args w λe w'=>∃ v,e = .returned v/\S w'/\(S w'->wpAnyH P .any ops Q S fuel (listed.setIfInBounds i true) (a.put Z v) w'))
  (hS:S (w.alloc (.cells zs ty)))
  (h2:wpAnyH P .any ops Q S fuel (listed.setIfInBounds j true) (a.put dj (.pointer (some ⟨w.heap.size,0,none⟩))) (w.alloc (.cells zs ty)))
  (hi:ops[i]? = some U:=by rfl) (hj:ops[j]? = some V:=by rfl) (J:U.dst=Z:=by rfl) (O:V.dst=dj:=by rfl) (R:V.op = .alloc ty:=by rfl) (hc:kTwo ops listed i j=true:=by kernel_rfl)
  (hent:∀ w,(execOp a.eval U).run P w = .ok (.enter f args) w:=by intro w;unfold execOp;go_simp):wpAnyH P .any ops Q S (fuel+1) listed a w:=by
 subst J O;obtain⟨r0,gi,gj⟩:=kTwo.out hi hj hc;refine wpAnyH_ready r0 (by simp) (AllReadyH.cons hi (λK D=>?_) (AllReadyH.cons hj (λK D=>?_) jN))
 ·rw[jP (jU gi _)];unfold Oper.wp;rw[hent,Oper.upon_enter];refine h1.mono ?_;rintro e w' ⟨v,rfl,I,hk⟩;exact D _ _ I hk
 ·rw[jP (jU gj _)];unfold Oper.wp;rw[uE hz R,Oper.upon_value];exact D _ _ hS (λ_=>h2)
theorem kA(i:Nat)(dst:Option Tmp){zs:Wa}{ty:TypeId}(U:∀ w,(zeroValue ty).run P w = .ok (.agg zs) w)(hS:S (w.alloc (.cells zs ty)))
  (h:wpAnyH P .any ops Q S fuel (listed.setIfInBounds i true) (a.put dst (.pointer (some ⟨w.heap.size,0,none⟩))) (w.alloc (.cells zs ty)))
  {o:Oper} (J:ops[i]? = some o:=by rfl) (D:o.dst=dst:=by rfl) (I:o.op = .alloc ty:=by rfl) (R:kOne ops listed a i=true:=by kernel_rfl):wpAnyH P .any ops Q S (fuel+1) listed a w:=by
 subst D;have k:=kOne.out J R;refine wpAnyH_ready k.1 (by simp) (AllReadyH.cons J (λK O=>?_) jN);rw[jP k.2];unfold Oper.wp;rw[uE U I,Oper.upon_value];exact O _ _ hS (λ_=>h)
end
end
section
open Go.RowKit
attribute [local irreducible] wpQuiet wpAnyH
theorem BV:(arr 8 (c32 lB)).toArray=#[.int .u32 1779033703,.int .u32 3144134277,.int .u32 1013904242,.int .u32 2773480762,.int .u32 1359893119,.int .u32 2600822924,.int .u32 528734635,.int .u32 1541459225]:=by kernel_rfl
theorem JL(w:Wd):Wc 131 #[] w (Rt w (.agg (arr 8 (c32 lB)).toArray)):=by
 go_enter func131,ntmps131
 obtain⟨O,I⟩:=je ((arr 8 (c32 lB)).toArray);have U:(prog.info? 231).map (·.size)=some O.size:=by rw[I,aC];kernel_rfl
 have a2:z32x8.size=O.size:=by rw[I,aC];exact aC 8 _
 have a3:O.all (·.oneCell')=true:=by rw[I];exact aP (λ_=>rfl)
 have a1:prog.built 231 [(0,.int .u32 1779033703),(1,.int .u32 3144134277),(2,.int .u32 1013904242),(3,.int .u32 2773480762),(4,.int .u32 1359893119),(5,.int .u32 2600822924),(6,.int .u32 528734635),(7,.int .u32 1541459225)]=some O:=by
  rw[I,BV]
  kernel_rfl
 go_upto_region 1 with (refine al 231 _ rfl rfl iV ?_)
 obtain⟨w1,D⟩:=je (w.alloc (.cells z32x8 231));have a0:Blk w1 w.heap.size 231 z32x8:=by rw[D];exact Blk.new _ _ _
 have K:Bw w w1:=by rw[D];exact(ji _ w).alloc (ja _) _
 rw[<- D];have HB:=jz K;have HO:=jz I;clear D I K;go_wp2_with (first
  | (refine gF 231 _ rfl rfl rfl a1 ?_)
  | (refine aN 231 (.tmp 0) (.tmp 1) rfl rfl rfl rfl a0 U a2 a3 ?_;intro w3 J R _ _;have V:=jz J;have Z:=jz R;clear J R))
 exact bodyPost_ret (results_cell_row rfl _ _ w.heap.size 231 _ (0,0) _ rfl V underlying231 rfl U) rfl ⟨by rw[<- HO.out],HB.trans Z⟩
def z8x32:Wa:=(arr 32 (c8 λ_=>0)).toArray
theorem eB:∀ w,(zeroValue 23).run prog w = .ok (.agg z8x32) w:=λw=>by unfold z8x32;kernel_rfl
def z8x64:Wa:=(arr 64 (c8 λ_=>0)).toArray
theorem uF:∀ w,(zeroValue 195).run prog w = .ok (.agg z8x64) w:=λw=>by unfold z8x64;kernel_rfl
structure PN(w:Wd)(va:Value)(ps:List (Value×List Nat)):Prop where
 row:Sn w 1 va ps.length (ps.map (·.1))
 part:∀ p∈ps,Sn w 1 p.1 p.2.length (n8 p.2)
 byn:∀ p∈ps,Byn p.2
theorem PN.below{w w':Wd}{D:Value}{ps:List (Value×List Nat)}(h:PN w D ps)(hb:Bw w w'):PN w' D ps:=
 ⟨h.row.below hb,λp I=>(h.part p I).below hb,h.byn⟩
def bJ(ps:List (Value×List Nat)):List Nat:=ps.flatMap (·.2)
theorem qH(ps:List (Value×List Nat))(k:Nat)(h:k<ps.length):bJ (ps.take (k+1))=bJ (ps.take k)++ps[k].2:=by
 unfold bJ;rw[j6 h,List.flatMap_append];simp only[List.flatMap_cons,List.flatMap_nil,List.append_nil]
theorem G1(ps:List (Value×List Nat))(k:Nat):(bJ (ps.take k)).length<=(bJ ps).length:=by
 have:bJ ps=bJ (ps.take k)++bJ (ps.drop k):=by
  unfold bJ;rw[<- List.flatMap_append,List.take_append_drop]
 rw[this,jj];omega
theorem BY{ps:List (Value×List Nat)}(h:∀ p∈ps,Byn p.2)(k:Nat):Byn (bJ (ps.take k)):=λx D=>by
 unfold bJ at D;obtain⟨p,I,D⟩:=List.mem_flatMap.1 D;exact h p (j7 I) x D
theorem PN.at{w:Wd}{A:Option Addr}{cap:Nat}{ps:List (Value×List Nat)}(h:PN w (.slice A ps.length cap) ps)(k:Nat)(O:k<ps.length):
  ∃ b off D I,A=some ⟨b,off,none⟩/\w.cell? ⟨b,off+k,none⟩=some (.slice D ps[k].2.length I)/\Sn w 1 (.slice D ps[k].2.length I) ps[k].2.length (n8 ps[k].2):=by
 obtain⟨V,K,hv,_,Z,U⟩:=h.row;injection hv with hA _ _
 subst hA;obtain⟨b,off,rfl,R⟩:=U (by omega);have J:=h.part ps[k] (List.getElem_mem O);obtain⟨D,I,e,_,_,_⟩:=id J;have:=R k ps[k].1 (by simp[O]);rw[e] at this J;exact⟨b,off,D,I,rfl,this,J⟩
theorem Sn.ownLt{w:Wd}{v:Value}{l:List Nat}(h:Sn w 1 v l.length (n8 l))(D:0<l.length):∀ b,v.ownBlock=some b->b<w.heap.size:=λb e=>by
 obtain⟨A,cap,rfl,_,_,J⟩:=h;obtain⟨g,off,rfl,I⟩:=J D;have:=eQ (I 0 _ (oE l 0 D));injection e with e
 rw[<- e];exact this
theorem BZ(S:Nat->Nat)(k j:Nat)(K:j<4):((S k:Nat):Int)/2 ^ (24-8*j) % 256=((fB S (4*k+j):Nat):Int):=by
 have D:(4*k+j)/4=k:=by omega
 have I:(4*k+j) % 4=j:=by omega
 have J:(256:Nat) ^ (3-j)=2 ^ (24-8*j):=by
  have:j=0\/j=1\/j=2\/j=3:=by omega
  rcases this with rfl|rfl|rfl|rfl <;> rfl
 unfold fB;rw[D,I,J];simp only[Int.natCast_emod,Int.natCast_ediv,Int.natCast_pow,Int.cast_ofNat_Int]
theorem MI:gU []=lB:=by unfold gU;rfl
theorem T6{w:Wd}{base e s n:Nat}{v:Value}{J:Wv}(h:w.ownsRow base e s v n J)(U:0<n):∀ b,v.ownBlock=some b->base<=b:=λb e=>by
 obtain⟨R,h|⟨K,D,I,rfl,hb,_⟩⟩:=h
 ·obtain⟨h1,O⟩:=h;have:v.ownBlock=none:=by subst h1;rfl
  rw[this] at e;cases e
 ·injection e with e
  rw[<- e];exact hb
theorem G2(va:Value)(ps:List (Value×List Nat))(w:Wd)(h:PN w va ps)(hn:ps.length<=1000)(ht:(bJ ps).length<=900000000)(hk:TabK w):
  Wc 79 #[va] w (Rt w (.agg (n8 (iD (bJ ps))).toArray)):=by
 obtain⟨A,cap,rfl,k4,_,_⟩:=id h.row;have HP:=jz h;have HK:=jz hk;clear h hk;go_enter func79,ntmps79
 go_upto_region 1 with (refine al 23 _ rfl rfl eB ?_)
 obtain⟨gz,b0⟩:=je w.heap.size;obtain⟨w1,c7⟩:=je (w.alloc (.cells z8x32 23));have a5:Hid (AB w1 gz 23 32 (c8 λ_=>0)/\Bw w w1/\w1.heap.size=gz+1):=jz (by
  rw[c7,b0]
  exact⟨Blk.new _ _ _,(ji _ w).alloc (ja _) _,by simp⟩)
 rw[<- c7];simp only[<- b0];have d2:=jz b0;clear c7 b0;go_wp2_with fail
 refine(JL w1).mono ?_;rintro e w2 ⟨rfl,a7⟩;have V:Hid (AB w2 gz 23 32 (c8 λ_=>0)/\Bw w w2/\gz+1<=w2.heap.size):=jz ⟨a5.out.1.keep a7,aB a5.out.2.1 a7,by have:=a7.size;have:=a5.out.2.2;omega⟩;clear a7 a5;obtain⟨O,hO⟩:=je ((arr 8 (c32 lB)).toArray);have a2:(prog.info? 231).map (·.size)=some O.size:=by rw[hO,aC];kernel_rfl
 have b2:z32x8.size=O.size:=by rw[hO,aC];exact aC 8 _
 have b3:O.all (·.oneCell')=true:=by rw[hO];exact aP (λ_=>rfl)
 have HO:=jz hO;rw[<- hO];clear hO;go_upto_region 2 with (first
  | (refine al 231 _ rfl rfl iV ?_)
  | (refine bQ (cells:=O) 231 (.tmp 3) (.tmp 14) rfl rfl (by rfl) (by rfl) a2 b2 b3 ?_;intro w3 a6 c3 a3))
 obtain⟨g,hg⟩:∃ g,w2.heap.size=g+1:=⟨w2.heap.size-1,by have:=V.out.2.2;omega⟩;rw[hg] at a6 a3 ⊢;have c9:Hid (AB w3 (g+1) 231 8 (c32 lB)/\AB w3 gz 23 32 (c8 λ_=>0)/\Bw w w3/\gz<=g/\w.heap.size<=g):=jz ⟨by rw[HO.out] at a6;exact a6,V.out.1.keep c3,aB V.out.2.1 c3,by have:=V.out.2.2;omega,by have:=V.out.2.2;have:=d2.out;omega⟩;have c2:=jz a3;clear a6 c3 a3 a2 b2 b3 hg V HO;go_upto_region 4 with (refine al 195 _ rfl rfl uF ?_)
 rw[c2.out];obtain⟨w5,Z⟩:=je (((w3.alloc (.cells z8x64 195)).alloc (.cells #[.int .i64 0] 3)).alloc (.cells #[.int .i64 0] 3));have d1:Hid (FSh gz w w5 g (bJ (ps.take 0)) (bJ (ps.take 0)).length):=jz (by
  obtain⟨h1,h2,h3,h4,h5⟩:=c9.out
  have e3:=c2.out
  have I:Bw w3 w5:=by rw[Z];exact(((ji _ w3).alloc (ja _) _).alloc (by simp) _).alloc (by simp;omega) _
  refine⟨λ_=>0,⟨aB h3 I,h5,h4,h2.keep I,by
   show AB w5 (g+1) _ 8 (c32 (gU []))
   rw[MI]
   exact h1.keep I,by
   rw[Z]
   exact((Blk.newAt _ _ _ _ e3).alloc _).alloc _,λk=>by show 0<256;omega,by
   rw[Z]
   exact(Blk.newAt _ _ _ _ (by simp[e3])).alloc _,by
   rw[Z]
   exact Blk.newAt _ _ _ _ (by simp[e3])⟩,λk hk=>by
   have:([]:List Nat).length % 64=0:=rfl
   have hk:k<0:=hk
   omega⟩)
 rw[<- Z];clear Z c9 c2;go_wp2_with fail
 go_loopw [18] (λi wr=>∃ k:Nat,k<=ps.length/\i = .int .i64 (k:Int)/\Hid (FSh gz w wr g (bJ (ps.take k)) (bJ (ps.take k)).length)) (λi _=>ps.length-(intOf i).toNat)
 case atStart=>exact⟨0,j0 _,rfl,d1⟩
 case round=>
  clear d1;obtain⟨k,hk,rfl,HF⟩:=hrel;obtain⟨bl,D,J⟩:=HF.out;have I:=D.be;have f3:=D.lo;rcases jo k ps.length with R|e8
  ·obtain⟨b,off,A',c',hA,hc,c5⟩:=HP.at k R;subst hA;have k7:=j9 I hc;have a0:=jz (BU gz w wr g (bJ (ps.take k)).length (bJ (ps.take k)) ps[k].2 (.slice A' ps[k].2.length c') HF (c5.below I) (BY HP.byn k) (HP.byn _ (List.getElem_mem R)) (λh0 b e=>.inl (by have:=Sn.ownLt c5 h0 b e;omega)) (by have h1:=qH ps k R;have h2:=G1 ps (k+1);rw[h1,jj] at h2;omega) HK);have h6:=jz (qH ps k R);have k0:(0:Int)<=k:=by omega
   have k1:(k:Int)<ps.length:=by omega
   clear D J I f3 c5 hc;go_wp2_with fail
   refine a0.mono ?_;rintro e w6 ⟨rfl,a8⟩;have g3:Hid (FSh gz w w6 g (bJ (ps.take (k+1))) (bJ (ps.take (k+1))).length):=jz (by rw[h6.out,jj];exact a8);clear a8 a0;go_wp2_with fail
   exact⟨⟨k+1,by omega,by go_num,g3⟩,by simp[intOf];omega⟩
  ·have f2:k=ps.length:=by omega
   have k3:¬(k:Int)<ps.length:=by omega
   rw[f2,List.take_length] at HF;obtain⟨L,hL⟩:=je (bJ ps);rw[<- hL] at ht HF;have HL:=jz hL;have e6:Byn L:=by rw[hL];have:=BY HP.byn ps.length;rwa [List.take_length] at this
   have g0:=jz e6;obtain⟨bl,D,J⟩:=HF.out;have h8:wr.cell? ⟨g+1+1+1+1,0,none⟩=some (.int .i64 (L.length:Nat)):=(D.t.cell 0).trans rfl;have d3:=jz (BR L.length wr (by omega));clear D J I f3 hL e6 f2 e8;go_wp2_with fail
   refine d3.mono ?_;rintro e w6 ⟨vp,rfl,b1,e4⟩;obtain⟨PL,a1⟩:=je (arr (dY L.length) (sK L.length));have c4:PL.length=dY L.length:=by rw[a1];exact aA _ _
   rw[<- lO,<- a1,<- c4] at b1;have f5:Byn PL:=λx hx=>by
    rw[a1] at hx;unfold arr at hx;obtain⟨q,_,rfl⟩:=List.mem_map.1 hx;exact GX _ _ _
   have f4:PL.length<=72:=by rw[c4];unfold dY iC;omega
   obtain⟨bl,D,J⟩:=HF.out;have h9:g+1+1+1+1<wr.heap.size:=D.t.lt;have b7:FSh gz w w6 g L L.length:=⟨bl,D.keep e4,J⟩;have a0:=jz (BU gz w w6 g L.length L PL vp b7 (Sn.own b1) g0 f5 (λh0 b e=>.inr (by have:=T6 b1 h0 b e;omega)) (by omega) HK);have g8:=jz a1;clear b7 D J f5 b1 e4 a1 c4 f4 h9 h8 HF d3;go_wp2_with fail
   refine a0.mono ?_;rintro e w7 ⟨rfl,a8⟩;obtain⟨bl,D,J⟩:=a8;obtain⟨S,hS⟩:=je (gU (L++PL));rw[<- hS] at D;have U:=jz D;have d5:=jz hS;clear D J hS a0;go_upto_region 12 with (refine al 23 _ rfl rfl eB ?_)
   obtain⟨gd,a9⟩:=je w7.heap.size;obtain⟨w8,a4⟩:=je (w7.alloc (.cells z8x32 23));have m2:g+1+1+1+1<gd:=by rw[a9];exact U.t.lt
   have d0:Hid (AB w8 gd 23 32 (c8 λq=>if q<4*0+0 then fB S q else 0)/\AB w8 gz 23 32 (c8 λ_=>0)/\Bw w w8):=jz (by
    have hb:Bw w7 w8:=by rw[a4];exact(ji _ w7).alloc (ja _) _
    have e7:=U.keep hb
    refine⟨?_,e7.z,e7.be⟩
    have hB:AB w8 gd 23 32 (c8 λ_=>0):=by rw[a4,a9];exact Blk.new _ _ _
    exact hB.ext (λq _=>by show _=Value.int .u8 ((if q<4*0+0 then fB S q else 0:Nat):Int);rw[jQ (by omega)];rfl))
   have d4:Hid (AB w8 (g+1) 231 8 (c32 S)):=jz (by
    have hb:Bw w7 w8:=by rw[a4];exact(ji _ w7).alloc (ja _) _
    exact U.s.keep hb)
   have d7:=jz (And.intro U.zl U.lo);have k5:Hid (WsF S):=jz (by rw[d5.out];exact G0 _);rw[<- a4];simp only[<- a9];clear a4 a9 U;have f7:=d4.range;have e1:(prog.info? 231).map (·.size)=some (arr 8 (c32 S)).length:=by rw[aA];kernel_rfl
   go_wp2_with (refine ld 231 _ rfl rfl rfl f7 underlying231 rfl e1 ?_)
   obtain⟨O,hO⟩:=je ((arr 8 (c32 S)).toArray);have HO:Hid (∀ j,j<8->O[j]? = some (.int .u32 (S j:Nat))):=jz (λj hj=>by rw[hO,jf,dC _ hj];rfl);rw[<- hO];clear hO f7 e1 d4;go_loopw [31] (λi wr=>∃ k:Nat,k<=8/\i = .int .i64 (k:Int)/\Hid (AB wr gd 23 32 (c8 λq=>if q<4*k+0 then fB S q else 0)/\AB wr gz 23 32 (c8 λ_=>0)/\Bw w wr)) (λi _=>8-(intOf i).toNat)
   case atStart=>exact⟨0,j0 _,rfl,d0⟩
   case round=>
    clear d0;obtain⟨k,hk,rfl,K⟩:=hrel;rcases jo k 8 with R|e8
    ·have k0:(0:Int)<=k:=by omega
     have k1:(k:Int)<8:=by omega
     have h7:∀ W,(Instr.index 231 (.agg O) (.int .i64 (k:Int))).run prog W = .ok (.int .u32 (S k:Nat)) W:=fA _ k underlying231 R (λw=>by kernel_rfl) (λw=>by kernel_rfl) (HO k R);go_wp2_with fail
     clear h7;go_loopw [35] (λi wr=>∃ j:Nat,j<=4/\i = .int .i64 (j:Int)/\Hid (AB wr gd 23 32 (c8 λq=>if q<4*k+j then fB S q else 0)/\AB wr gz 23 32 (c8 λ_=>0)/\Bw w wr)) (λi _=>4-(intOf i).toNat)
     case atStart=>exact⟨0,j0 _,rfl,K⟩
     case round=>
      clear K;obtain⟨j,hj,rfl,K⟩:=hrel;rcases jo j 4 with k2|f1
      ·have m3:(0:Int)<=j:=by omega
       have m4:(j:Int)<4:=by omega
       have k6:wr.cell? ⟨gd,4*k+j,none⟩=some (.int .u8 0):=by
        rw[K.out.1.cell (i:=4*k+j) (by omega)];show some (Value.int .u8 ((if 4*k+j<4*k+j then fB S (4*k+j) else 0:Nat):Int))=_;rw[jQ (Nat.lt_irrefl _)];rfl
       have m1:=K.out.1.frozen (4*k+j);have c6:=K.out.1.set (4*k+j) (.int .u8 (fB S (4*k+j):Nat));rw[cY,<- BZ S k j k2] at c6;have b9:Hid (AB (wr.setCell ⟨gd,4*k+j,none⟩ (.int .u8 (((S k:Nat):Int)/2 ^ (24-8*j) % 256))) gd 23 32 (c8 λq=>if q<4*k+(j+1) then fB S q else 0)/\AB (wr.setCell ⟨gd,4*k+j,none⟩ (.int .u8 (((S k:Nat):Int)/2 ^ (24-8*j) % 256))) gz 23 32 (c8 λ_=>0)/\Bw w (wr.setCell ⟨gd,4*k+j,none⟩ (.int .u8 (((S k:Nat):Int)/2 ^ (24-8*j) % 256)))):=jz ⟨c6.ext (λq _=>by
        show Value.int .u8 ((aY (λq=>if q<4*k+j then fB S q else 0) (4*k+j) (fB S (4*k+j)) q:Nat):Int)=Value.int .u8 ((if q<4*k+(j+1) then fB S q else 0:Nat):Int)
        congr 2
        unfold aY
        by_cases e:q=4*k+j
        ·rw[jP e,jP (by omega),e]
        ·rw[jQ e]
         show(if q<4*k+j then fB S q else 0)=_
         by_cases e2:q<4*k+j
         ·rw[jP e2,jP (by omega)]
         ·rw[jQ e2,jQ (by omega)]),K.out.2.1.far (by have:=d7.out.1;show gz≠gd;omega) _,K.out.2.2.setCell (by have:=d7.out.2;show w.heap.size<=gd;omega) _⟩
       have m8:(4:Int)*k+j<32:=by omega
       have m9:(0:Int)<=4*(k:Int)+j:=by omega
       clear c6 K;go_wp2_with fail
       exact⟨⟨j+1,by omega,by go_num,b9⟩,by simp[intOf];omega⟩
      ·have f0:j=4:=by omega
       have m5:¬(j:Int)<4:=by omega
       have b9:Hid (AB wr gd 23 32 (c8 λq=>if q<4*(k+1)+0 then fB S q else 0)/\AB wr gz 23 32 (c8 λ_=>0)/\Bw w wr):=jz (by
        have h1:=K.out
        rw[f0] at h1
        exact h1)
       clear K f0 hj f1;go_wp2_with fail
       exact⟨⟨k+1,by omega,by go_num,b9⟩,by simp[intOf];omega⟩
    ·have m6:k=8:=by omega
     have k3:¬(k:Int)<8:=by omega
     have hD:AB wr gd 23 32 (c8 (fB S)):=K.out.1.ext (λq hq=>by
      show Value.int .u8 ((if q<4*k+0 then fB S q else 0:Nat):Int)=Value.int .u8 (fB S q:Nat)
      rw[jP (by omega)])
     have f6:=hD.range;have g1:Blk wr gz 23 z8x32:=K.out.2.1;have f9:=jz K.out.2.2;have hI:(prog.info? 23).map (·.size)=some (arr 32 (c8 (fB S))).length:=by rw[aA];kernel_rfl
     obtain⟨M,hM⟩:=je (arr 32 (c8 (fB S)));rw[<- hM] at f6 hI;have a2:(prog.info? 23).map (·.size)=some M.toArray.size:=by rw[js];exact hI
     have b2:z8x32.size=M.toArray.size:=by rw[hM,aC];exact aC 32 _
     have b3:M.toArray.all (·.oneCell')=true:=by rw[hM];exact aP (λ_=>rfl)
     have HM:Hid (M=n8 (iD (bJ ps))):=jz (by
      rw[hM,d5.out,g8.out,HL.out]
      unfold iD
      rw[lO])
     clear hM K hD;go_wp2_with (first
      | (refine ld 23 _ rfl rfl rfl f6 underlying23 rfl hI ?_)
      | (refine aN 23 (.tmp 2) (.tmp 51) rfl rfl rfl rfl g1 a2 b2 b3 ?_;intro w9 e0 e5 _ _;have f8:=jz e0;have g2:=jz e5;clear e0 e5))
     exact bodyPost_ret (results_cell_row rfl _ _ gz 23 _ (0,0) _ rfl f8 underlying23 rfl a2) rfl ⟨by rw[<- HM.out],f9.trans (g2.mono (by rw[d2.out];exact ja _))⟩
end
end Go.Proofs.YtjjlaipkkdncfaaGreatDoor
