import Derived.Test.YtombncedfleljaaGreatMC14
import Derived.Laws.OwnMore
set_option linter.unusedSimpArgs false
set_option maxRecDepth 100000
set_option maxHeartbeats 40000000
namespace Go.Proofs.YtombncedfleljaaGreat
open Go.RowKit
attribute [local irreducible] wpQuiet wpAnyH
theorem EC(l:List Int):∀ x,l.foldl (fun x c=>x*256+c.toNat) x=x*256 ^ l.length+beN l:=by
 induction l with
 | nil=>intro x;simp[beN]
 | cons c l ih=>
  intro x;rw[List.foldl_cons,ih,show beN (c :: l)=(c :: l).foldl (fun x c=>x*256+c.toNat) 0 from rfl,List.foldl_cons,ih,List.length_cons,Nat.pow_succ,Nat.zero_mul,Nat.zero_add];rw[Nat.add_mul,Nat.mul_assoc,Nat.mul_comm 256,Nat.add_assoc]
theorem gM(c:Int)(l:List Int):beN (c :: l)=c.toNat*256 ^ l.length+beN l:=by
 rw[show beN (c :: l)=(c :: l).foldl (fun x c=>x*256+c.toNat) 0 from rfl,List.foldl_cons,EC,Nat.zero_mul,Nat.zero_add]
theorem lK:∀ k x,beN (beB k x)=x % 256 ^ k
 | 0,x=>by simp[beN,beB,Nat.mod_one]
 | m+1,x=>by
  rw[beB,gM,lK m x,bB,Nat.mod_pow_succ,Int.toNat_natCast,Nat.mul_comm,Nat.add_comm]
theorem JJ(p:List Int)(h:p.length≤54):(body p).take 56=beB 2 p.length++(p++List.replicate (54-p.length) 0):=by
 unfold body pad;rw[List.append_assoc,List.length_append,bB];rw[show 64-(2+p.length)=(54-p.length)+8 by omega,← List.replicate_append_replicate,← List.append_assoc p,← List.append_assoc (beB 2 p.length)];rw[List.take_left' (by simp[bB];omega)]
theorem uA(g:Nat)(p:List Int)(h:p.length≤54):∃ A C:List Int,A=beB 2 p.length++(p++List.replicate (54-p.length) 0)∧A.length=56∧C=beB 4 (bQ (A++beB 4 g))∧rec g p=A++(C++beB 4 g):=by
 refine⟨_,_,rfl,by simp[bB];omega,rfl,?_⟩;unfold rec;rw[JJ p h]
theorem ED(n:Nat):kJ (List.replicate n 0)=true:=by
 unfold kJ;rw[List.all_eq_true];intro c hc;rw[(List.mem_replicate.1 hc).2];rfl
theorem rH(g:Nat)(p:List Int)(h:p.length≤54):(rec g p).drop 60=beB 4 g:=by
 obtain⟨A,C,_,hA,hC,hr⟩:=uA g p h;have hc:C.length=4:=by rw[hC,bB]
 rw[hr,← List.append_assoc,List.drop_left' (by simp[hA,hc])]
theorem CG(g:Nat)(p:List Int)(h:p.length≤54)(hg:g<4294967296):prs (rec g p)=some (g,p):=by
 obtain⟨A,C,hAd,hA,hC,hr⟩:=uA g p h;have hc:C.length=4:=by rw[hC,bB]
 have h4:=bB 4 g;have e1:(rec g p).take 2=beB 2 p.length:=by
  rw[hr,List.take_append_of_le_length (by omega),hAd,List.take_left' (bB 2 _)]
 have e2:(rec g p).drop 2=p++(List.replicate (54-p.length) 0++(C++beB 4 g)):=by
  rw[hr,hAd,List.append_assoc,List.drop_left' (bB 2 _),List.append_assoc]
 have n1:beN (beB 2 p.length)=p.length:=by rw[lK];exact Nat.mod_eq_of_lt (by omega)
 have e3:(rec g p).drop (2+p.length)=List.replicate (54-p.length) 0++(C++beB 4 g):=by
  rw[← List.drop_drop,e2,List.drop_left]
 have e4:(rec g p).drop 56=C++beB 4 g:=by rw[hr,List.drop_left' hA]
 have e5:=rH g p h;have e6:(rec g p).take 56=A:=by rw[hr,List.take_left' hA]
 have n2:beN C=bQ (A++beB 4 g):=by rw[hC,lK];exact Nat.mod_eq_of_lt (lB _)
 have n3:beN (beB 4 g)=g:=by rw[lK];exact Nat.mod_eq_of_lt (by omega)
 unfold prs;rw[e1,n1,e3,e4,e5,e6,if_neg (by omega),List.take_left' (by simp),ED,List.take_left' hc,n2,List.take_of_length_le (by omega),n3,e2,List.take_left];simp
theorem FY(g:Nat)(hg:g<4294967296):fH (rec g toll)=some g:=by
 unfold fH;rw[CG g toll (by decide) hg];simp
theorem FZ(g:Nat)(q:List Int×Int)(hq:EntOk q)(hr:aS q=true)(hg:g<4294967296):fB (aD g q)=some (g,q):=by
 have h32:=hq.dig.len;have hr':0≤q.2∧q.2≤4611686018427387904:=by unfold aS at hr;simpa using hr
 unfold fB aD;rw[CG g _ (by rw[List.length_append,h32,bB];omega) hg];have n1:beN (beB 8 q.2.toNat)=q.2.toNat:=by rw[lK];exact Nat.mod_eq_of_lt (by omega)
 simp only[List.drop_left' h32,List.take_left' h32,n1,List.length_append,h32,bB];rw[if_pos ⟨by decide,by omega⟩];rw[show((q.2.toNat:Nat):Int)=q.2 by omega]
theorem qC{s:List Int}{g:Nat}{p:List Int}(h:prs s=some (g,p)):g=beN ((s.drop 60).take 4):=by
 unfold prs at h;split at h
 ·cases h
 ·split at h
  ·cases h
  ·split at h
   ·cases h
   ·injection h with h;injection h with h _;exact h.symm
theorem F0{s:List Int}{g:Nat}{e:List Int×Int}(h:fB s=some (g,e)):g=beN ((s.drop 60).take 4):=by
 unfold fB at h;split at h
 ·cases h
 ·rename_i g' p h1;split at h
  ·injection h with h;injection h with h _;rw[← h];exact qC h1
  ·cases h
theorem EF(n:Nat):beN (List.replicate n 0)=0:=by
 induction n with
 | zero=>rfl
 | succ n ih=>rw[List.replicate_succ,gM,ih];simp
theorem F1{g:Nat}{p:List Int}(h:prs zsec=some (g,p)):p=[]:=by
 unfold prs at h;rw[show zsec.take 2=List.replicate 2 0 by unfold zsec;rw[List.take_replicate];rfl,EF] at h;split at h
 ·cases h
 ·split at h
  ·cases h
  ·split at h
   ·cases h
   ·injection h with h;injection h with _ h;rw[← h,List.take_zero]
theorem EG:fH zsec=none:=by
 unfold fH;split
 ·rename_i g p h;rw[F1 h,if_neg (by decide)]
 ·rfl
theorem lL{old data:List Int}(c:Int)(ho:old.length=64)(hd:data.length=64)(h:64≤c):bM old data c=data:=by
 unfold bM;rw[show fK c=64 by unfold fK;omega,List.take_of_length_le (by omega),List.drop_eq_nil_of_le (by omega),List.append_nil]
def qD(sec:List (List Int))(opn:List (Int×List Int))(st r:Nat):DiskD:={ sec:=sec,opn:=opn,down:=false,steps:=st,fl:=fun _=>false,cr:=fun _=>none,room:=r }
theorem KU(n:Nat):fV n=qD (List.replicate n zsec) [] 0 0:=rfl
theorem uB(sec:List (List Int))(opn:List (Int×List Int))(st r:Nat):stepped (qD sec opn st r)=qD sec opn (st+1) (max r (st+1)):=by
 unfold stepped qD;simp
theorem AJ(sec:List (List Int))(opn:List (Int×List Int))(st r:Nat):gK (qD sec opn st r)=0:=rfl
theorem KJ{sec:List (List Int)}{opn:List (Int×List Int)}{st r:Nat}{a:Int}(h:0≤a)(h':a<sec.length):eD (qD sec opn st r) a=true:=by
 unfold eD;rw[decide_eq_true h,Bool.true_and];exact decide_eq_true h'
theorem rI{sec:List (List Int)}{opn:List (Int×List Int)}{st r:Nat}{a:Int}(h:0≤a)(h':a<sec.length):writeA (qD sec opn st r) a=none:=by
 unfold writeA;rw[AJ,KJ h h'];rfl
theorem rJ{sec:List (List Int)}{opn:List (Int×List Int)}{st r:Nat}{a:Int}(h:0≤a)(h':a<sec.length)(s:List Int):writeD (qD sec opn st r) a s=qD sec (opn++[(a,s)]) (st+1) (max r (st+1)+1):=by
 unfold writeD;rw[AJ,uB];unfold addIf;rw[KJ h h'];rfl
theorem CH(sec:List (List Int))(opn:List (Int×List Int))(st r:Nat):syncA (qD sec opn st r)=none:=rfl
theorem vW(sec:List (List Int))(opn:List (Int×List Int))(st r:Nat):syncS (qD sec opn st r)=qD (dJ sec opn opn.length) [] (st+1) (max r (st+1)):=by
 unfold syncS;rw[AJ,uB];rfl
theorem F3{sec:List (List Int)}{opn:List (Int×List Int)}{st r:Nat}{a:Int}(h:0≤a)(h':a<sec.length)(s:List Int):wsA (qD sec opn st r) a s=none:=by
 unfold wsA;rw[rI h h',rJ h h'];rfl
theorem F4{sec:List (List Int)}{st r:Nat}{a:Int}(h:0≤a)(h':a<sec.length)(s:List Int):∃ r',st+2≤r'∧r'≤max r (st+2)+1∧wsD (qD sec [] st r) a s=qD (sec.set a.toNat s) [] (st+2) r':=by
 refine⟨max (max r (st+1)+1) (st+2),by omega,by omega,?_⟩;unfold wsD;rw[rI h h',rJ h h'];show syncS _=_;rw[vW];rfl
theorem rK{d:DiskD}(hd:d.down=false)(ho:d.opn=[]):∀(n:Nat) (a:Int),0≤a→a.toNat+n≤d.sec.length→dY d a n=((d.sec.drop a.toNat).take n).map (fun s=>(s,none))
 | 0,a,_,_=>by simp[dY]
 | n+1,a,h0,h=>by
  have hlt:a.toNat<d.sec.length:=by omega
  have hh:eD d a=true:=by unfold eD;simp;omega
  have e1:rdA d a=none:=by unfold rdA;rw[hd,hh];rfl
  have e2:rdS d a=d.sec[a.toNat]:=by
   unfold rdS;rw[hd,hh];show rdD d a=_;unfold rdD;rw[ho];simp[hlt]
  rw[dY,e1,if_pos rfl,e2,rK hd ho n (a+1) (by omega) (by omega),List.drop_eq_getElem_cons hlt,List.take_succ_cons,List.map_cons,show(a+1).toNat=a.toNat+1 by omega]
def bT:SSt→List (List Int)→SSt
 | st,[]=>st
 | st,s :: r=>match eM st s with|some st'=>bT st' r|none=>st
theorem mL:∀(L:List (List Int)) (st:SSt),dM st (L.map (fun s=>(s,none)))=(bT st L,none)
 | [],st=>rfl
 | s :: r,st=>by
  rw[List.map_cons];unfold dM bT;cases h:eM st s with
  | none=>rfl
  | some st'=>exact mL r st'
theorem EH(g:Nat)(hg:g<4294967296)(L:List (List Int)):bT (none,[]) (rec g toll :: L)=bT (some g,[]) L:=by
 rw[bT];unfold eM;simp only[FY g hg,Option.map_some]
theorem uC(g:Nat)(hg:g<4294967296):∀(qs:List aW) (es:List aW) (L:List (List Int)),(∀ q∈qs,EntOk q∧aS q=true)→bT (some g,es) (qs.map (aD g)++L)=bT (some g,es++qs) L
 | [],es,L,_=>by simp
 | q :: qs,es,L,h=>by
  have hq:=h q (by simp);rw[List.map_cons,List.cons_append,bT];unfold eM;simp only[FZ g q hq.1 hq.2 hg,if_true];rw[uC g hg qs _ L (fun x hx=>h x (by simp[hx])),List.append_assoc];rfl
theorem EI{g:Nat}{es:List aW}{s:List Int}{L:List (List Int)}(h:∀ g' e,fB s=some (g',e)→g'≠g):bT (some g,es) (s :: L)=(some g,es):=by
 rw[bT];unfold eM;cases hp:fB s with
 | none=>rfl
 | some x=>
  obtain⟨g',e⟩:=x;simp only[if_neg (h g' e hp)]
theorem pB(g:Nat):∀(L:List (List Int)) (es:List aW),∃ more,bT (some g,es) L=(some g,es++more)∧more.length≤L.length
 | [],es=>⟨[],by simp[bT],Nat.le_refl _⟩
 | s :: L,es=>by
  rw[bT];unfold eM;cases hp:fB s with
  | none=>exact⟨[],by simp,by simp⟩
  | some x=>
   obtain⟨g',e⟩:=x;by_cases hg:g'=g
   ·obtain⟨m,hm,hl⟩:=pB g L (es++[e]);refine⟨e :: m,?_,by simp;omega⟩;simp only[if_pos hg,hm,List.append_assoc,List.singleton_append]
   ·refine⟨[],?_,by simp⟩;simp only[if_neg hg,List.append_nil]
theorem uD(s:List Int)(w:World)(hl:s.length=64)(hb:Bys s):
  Calls Tryz.prog 147 #[.agg (u8s s).toArray] w fun e w'=>e = .returned (.int .u32 (bQ (s.take 56++s.drop 60)))∧Below w.heap.size w w':=by
 have hB1:Blk (w.alloc (.cells (u8s s).toArray 144)) w.heap.size 144 (u8s s).toArray:=Blk.new _ _ _;have hb1:Below w.heap.size w (w.alloc (.cells (u8s s).toArray 144)):=aN _ _;obtain⟨w1,hw1⟩:=je (w.alloc (.cells (u8s s).toArray 144));rw[← hw1] at hB1 hb1;have HA:Hid (Sn w1 1 (.slice (some ⟨w.heap.size,0,none⟩) 56 64) 56 (u8s (s.take 56))):=jz (by
  have:=Sn.of_blk hB1 0 56 64 (by omega) (by omega)
  rw[List.drop_zero] at this
  exact this)
 have HC:Hid (Sn w1 1 (.slice (some ⟨w.heap.size,60,none⟩) 4 4) 4 (u8s (s.drop 60))):=jz (by
  have:=Sn.of_blk hB1 60 4 4 (by omega) (by omega)
  rw[List.take_of_length_le (by rw[List.length_drop];omega)] at this
  exact this)
 have HB1:=jz hb1;have hsz:=hb1.size;have HLT:Hid (w.heap.size<w1.heap.size):=jz hB1.lt;clear hB1 hb1;have HL:Hid ((s.take 56++s.drop 60).length=60∧Bys (s.take 56++s.drop 60)):=jz ⟨by simp[hl],fun b h=>by
  rcases List.mem_append.1 h with h|h
  ·exact hb b (List.mem_of_mem_take h)
  ·exact hb b (List.mem_of_mem_drop h)⟩
 clear hl hb;have hown0:(w1.alloc (.cells #[] 5)).ownsRow w1.heap.size 5 1 (.slice (some ⟨w1.heap.size,0,none⟩) 0 0) 0 []:=cI w1 #[] 5 1 0 w1.heap.size _ (Nat.le_refl _) rfl (by decide) rfl;go_enter Tryz.func147,Tryz.ntmps147
 go_upto_region 1 with fail
 rw[← hw1];clear hw1;go_wp2_with (first
  | (at_builtin;refine app pS (.tmp 4) (.tmp 5) rfl rfl rfl hown0 rfl (HA.alloc _) (bS _) (by unfold maxLen;omega) (by omega) (by simp) ?_;intro v3 w3 hown hgrow _;rw[List.nil_append] at hown;obtain⟨A3,c3,rfl,_,_,_⟩:=id (Sn.own hown);have HO3:=jz hown;have HB3:Hid (Below w1.heap.size w1 w3):=jz ((aN w1 _).grown hgrow (by simp) (fun g hg=>by cases hg;exact Nat.le_refl _));clear hown hgrow)
  | (at_builtin;refine app pS (.tmp 7) (.tmp 8) rfl rfl rfl HO3.out rfl (HC.below HB3.out) (bS _) (by unfold maxLen;omega) (by omega) HB3.size ?_;intro v4 w4 hown hgrow _;rw[← eI] at hown;obtain⟨A4,c4,rfl,_,_,_⟩:=id (Sn.own hown);have HO4:=jz hown;have HB4:Hid (Below w1.heap.size w1 w4):=jz (HB3.grown hgrow HB3.size (fun g hg=>(World.ownsRow.lt HO3.out g hg).1));clear hown hgrow))
 refine(JD (s.take 56++s.drop 60) _ w4 (by rw[HL.out.1];exact Sn.own HO4.out) HL.out.2 (by rw[HL.out.1];omega)).mono ?_;rintro e w5 ⟨rfl,hb5⟩;have HB5:=jz (aB (aB HB1.out HB4.out) hb5);clear hb5;go_wp2_with fail
 go_ret;exact⟨rfl,HB5.out⟩
theorem jV{s:List Int}(hl:s.length=64)(hb:Bys s)(i:Nat)(hi:i<64):∃ c:Nat,c<256∧s[i]? = some (c:Int):=by
 have:=hb (s[i]'(by omega)) (List.getElem_mem _);exact⟨(s[i]'(by omega)).toNat,by omega,by rw[List.getElem?_eq_getElem (by omega)];congr 1;omega⟩
theorem yR{s:List Int}(hl:s.length=64)(hb:Bys s)(i:Nat)(hi:i+4≤64):∃ a b c d:Nat,a<256∧b<256∧c<256∧d<256∧s[i]? = some (a:Int)∧s[i+1]? = some (b:Int)∧s[i+2]? = some (c:Int)∧s[i+3]? = some (d:Int)∧beN ((s.drop i).take 4)=a*16777216+b*65536+c*256+d:=by
 obtain⟨a,ha,ea⟩:=jV hl hb i (by omega);obtain⟨b,hb',eb⟩:=jV hl hb (i+1) (by omega);obtain⟨c,hc,ec⟩:=jV hl hb (i+2) (by omega);obtain⟨d,hd,ed⟩:=jV hl hb (i+3) (by omega);refine⟨a,b,c,d,ha,hb',hc,hd,ea,eb,ec,ed,?_⟩;have e:(s.drop i).take 4=[(a:Int),b,c,d]:=by
  apply List.ext_getElem?;intro j;rw[List.getElem?_take,List.getElem?_drop]
  match j with
  | 0=>simpa using ea
  | 1=>simpa using eb
  | 2=>simpa using ec
  | 3=>simpa using ed
  | j+4=>simp;omega
 rw[e,gM,gM,gM,gM];simp only[List.length_cons,List.length_nil,Int.toNat_natCast];show _+(_+(_+(_+0)))=_;omega
theorem fL{s:List Int}{i:Nat}{c:Int}(h:s[i]? = some c):(u8s s)[i]? = some (.int .u8 c):=by simp[u8s,h]
theorem uE(s:List Int)(w:World)(hl:s.length=64)(hb:Bys s):
  Calls Tryz.prog 154 #[.agg (u8s s).toArray] w fun e w'=>e = .returned (.int .u32 (beN ((s.drop 60).take 4)))∧Below w.heap.size w w':=by
 have hB1:Blk (w.alloc (.cells (u8s s).toArray 144)) w.heap.size 144 (u8s s).toArray:=Blk.new _ _ _;have hb1:Below w.heap.size w (w.alloc (.cells (u8s s).toArray 144)):=aN _ _;obtain⟨w1,hw1⟩:=je (w.alloc (.cells (u8s s).toArray 144));rw[← hw1] at hB1 hb1;obtain⟨a,b,c,d,ha,hb',hc,hd,ea,eb,ec,ed,hN⟩:=yR hl hb 60 (by omega);rw[hN];have hul:(u8s s).length=64:=by rw[aP,hl]
 have k1:w1.cell? ⟨w.heap.size,60,none⟩=some (.int .u8 (a:Nat)):=by rw[hB1.cell 60,List.getElem?_toArray];exact fL ea
 have k2:w1.cell? ⟨w.heap.size,61,none⟩=some (.int .u8 (b:Nat)):=by rw[hB1.cell 61,List.getElem?_toArray];exact fL eb
 have k3:w1.cell? ⟨w.heap.size,62,none⟩=some (.int .u8 (c:Nat)):=by rw[hB1.cell 62,List.getElem?_toArray];exact fL ec
 have k4:w1.cell? ⟨w.heap.size,63,none⟩=some (.int .u8 (d:Nat)):=by rw[hB1.cell 63,List.getElem?_toArray];exact fL ed
 have HB1:=jz hb1;clear hB1 hb1 ea eb ec ed hN hl hb;go_enter Tryz.func154,Tryz.ntmps154
 go_upto_region 1 with fail
 rw[← hw1];clear hw1;go_wp2_with fail
 go_ret;exact⟨congrArg (fun z=>Ending.returned (Value.int .u32 z)) (by omega),HB1.out⟩
theorem tJ(x:Nat)(w:World)(hx:x<18446744073709551616):
  Calls Tryz.prog 148 #[.int .i64 8,.int .u64 x] w fun e w'=>∃ v,e = .returned (.tuple #[v,.bool true])∧w'.ownsRow w.heap.size 5 1 v 8 (u8s (beB 8 x))∧Below w.heap.size w w':=by
 have HX:=jz hx;clear hx;go_enter Tryz.func148,Tryz.ntmps148
 go_wp2_with fail
 go_loopw [1,6,7] (fun y out i wr=>∃ k:Nat,k≤8∧i = .int .i64 k∧y = .int .u64 ((x/256 ^ k:Nat):Int)∧Hid (wr.ownsRow w.heap.size 5 1 out k (u8s (beB k x)))∧Hid (Below w.heap.size w wr)) (fun _ _ i _=>8-(intOf i).toNat)
 case atStart=>exact⟨0,Nat.zero_le _,rfl,by simp,jz (World.ownsRow_nil _ _ _ _),jz (Below.refl _ _)⟩
 case round=>
  obtain⟨k,hk,rfl,rfl,HO,HB⟩:=hrel;have hszr:=HB.size;rcases Nat.lt_or_ge k 8 with hlt|hge
  ·obtain⟨y,hy⟩:=je (x/256 ^ k);have hy2:x/256 ^ (k+1)=y/256:=by rw[Nat.pow_succ,← Nat.div_div_eq_div_mul,hy]
   have hyl:y<18446744073709551616:=by rw[hy];exact Nat.lt_of_le_of_lt (Nat.div_le_self _ _) HX.out
   have HBS:Hid (beB (k+1) x=((y % 256:Nat):Int) :: beB k x):=jz (by rw[hy];rfl);have HY2:=jz hy2;rw[← hy];clear hy hy2;obtain⟨A3,c3,rfl,_,_,_⟩:=id (Sn.own HO.out);have k3:IntKind.u8.wrap ((y:Int) % 256)=(y:Int) % 256:=by unfold IntKind.wrap;simp[IntKind.signed,IntKind.bits]
   go_wp2_with (at_builtin;refine app pS (.tmp 22) (.tmp 23) rfl rfl (by rfl) (World.ownsRow_lit wr #[.int .u8 ((y:Int) % 256)] 1 hszr (by decide) rfl) (by rfl) (HO.out |> fun h=>(Sn.own h).alloc _) (bS _) (by unfold maxLen;omega) (by omega) (by simp;omega) ?_;intro v3 w3 hown hgrow _;have HO3:=jz hown;have HB3:=jz ((HB.alloc hszr _).grown hgrow (by simp;omega) (fun g hg=>by cases hg;simp;omega));clear hown hgrow)
   exact⟨⟨k+1,by omega,by go_num,by rw[HY2.out];simp,jz (by rw[HBS.out,Nat.add_comm k 1];exact HO3.out),HB3⟩,by simp[intOf];omega⟩
  ·obtain rfl:k=8:=by omega
   have h0:((x/256 ^ 8:Nat):Int)=0:=by rw[Nat.div_eq_of_lt (by have:=HX.out;omega)];rfl
   rw[h0];go_wp2_with fail
   go_ret2
   exact⟨_,rfl,HO.out,HB.out⟩
theorem pC(q:aW)(w:World)(hq:EntOk q)(hr:aS q=true):
  Calls Tryz.prog 127 #[.agg (aC q).toArray] w fun e w'=>∃ v,e = .returned v∧w'.ownsRow w.heap.size 5 1 v 40 (u8s (q.1++beB 8 q.2.toNat))∧Below w.heap.size w w':=by
 have hr':0≤q.2∧q.2≤4611686018427387904:=by unfold aS at hr;simpa using hr
 obtain⟨x,hx⟩:∃ x:Nat,q.2=x:=⟨q.2.toNat,by omega⟩;have hx2:x≤4611686018427387904:=by omega
 rw[hx,Int.toNat_natCast];have hB1:Blk (w.alloc (.cells (aC q).toArray 35)) w.heap.size 35 (aC q).toArray:=Blk.new _ _ _;have hb1:Below w.heap.size w (w.alloc (.cells (aC q).toArray 35)):=aN _ _;obtain⟨w1,hw1⟩:=je (w.alloc (.cells (aC q).toArray 35));rw[← hw1] at hB1 hb1;have HD:=jz (E8 hB1 hq);have h32:=hq.dig.len;have hc:w1.cell? ⟨w.heap.size,32,none⟩=some (.int .i64 (x:Int)):=by
  rw[hB1.cell 32,List.getElem?_toArray,← hx];unfold aC cY;rw[List.getElem?_append_right (by rw[aP,h32];omega),aP,h32];rfl
 have HB1:=jz hb1;have HLT:Hid (w.heap.size<w1.heap.size):=jz hB1.lt;have k1:IntKind.u64.wrap (x:Int)=x:=by unfold IntKind.wrap;simp[IntKind.signed,IntKind.bits];omega
 have hx0:(0:Int)≤x:=by omega
 clear hB1 hb1 hr hr' hx;go_enter Tryz.func127,Tryz.ntmps127
 go_upto_region 1 with fail
 rw[← hw1];clear hw1;go_wp2_with fail
 refine(tJ x w1 (by omega)).mono ?_;rintro e w2 ⟨v2,rfl,ho2,hb2⟩;obtain⟨A2,c2,rfl,_,_,_⟩:=id (Sn.own ho2);have HO2:=jz ho2;have HB2:=jz (aB HB1.out hb2);have HD2:Hid (Sn w2 1 (.slice (some ⟨w.heap.size,0,none⟩) 32 32) 32 (u8s q.1)):=jz (HD.below hb2);have hlt:w.heap.size≤w2.heap.size:=HB2.size;have hown0:(w2.alloc (.cells #[] 5)).ownsRow w2.heap.size 5 1 (.slice (some ⟨w2.heap.size,0,none⟩) 0 0) 0 []:=cI w2 #[] 5 1 0 w2.heap.size _ (Nat.le_refl _) rfl (by decide) rfl;clear ho2 hb2 HD hc;go_wp2_with (first
  | (at_builtin;refine app pS (.tmp 12) (.tmp 14) rfl rfl rfl hown0 rfl (HD2.alloc _) (bS _) (by unfold maxLen;omega) (by omega) (by simp) ?_;intro v3 w3 hown hgrow _;rw[List.nil_append] at hown;obtain⟨A3,c3,rfl,_,_,_⟩:=id (Sn.own hown);have HO3:=jz hown;have HB3:Hid (Below w2.heap.size w2 w3):=jz ((aN w2 _).grown hgrow (by simp) (fun g hg=>by cases hg;exact Nat.le_refl _));clear hown hgrow)
  | (at_builtin;refine app pS (.tmp 15) (.tmp 16) rfl rfl rfl HO3.out rfl ((Sn.own HO2.out).below HB3.out) (bS _) (by unfold maxLen;omega) (by omega) HB3.size ?_;intro v4 w4 hown hgrow _;rw[← eI] at hown;have HO4:=jz hown;have HB4:Hid (Below w2.heap.size w2 w4):=jz (HB3.grown hgrow HB3.size (fun g hg=>(World.ownsRow.lt HO3.out g hg).1));clear hown hgrow))
 go_ret;exact⟨_,rfl,dI HO4.out hlt,aB HB2.out HB4.out⟩
def mk1(p:List Int)(k:Nat):List Int:=beB 2 p.length++(p.take k++List.replicate (62-k) 0)
def mk2(p:List Int)(g k:Nat):List Int:=(body p).take (64-k)++beB k g
def mk3(p:List Int)(g k:Nat):List Int:=(body p).take (60-k)++(beB k (bQ ((body p).take 56++beB 4 g))++beB 4 g)
theorem JK(p:List Int)(k:Nat)(h:k≤p.length)(hp:p.length≤54):(mk1 p k).length=64:=by unfold mk1;simp[bB];omega
theorem vY(p:List Int)(g k:Nat)(h:k≤4)(hp:p.length≤54):(mk2 p g k).length=64:=by unfold mk2;simp[bB,d8 p hp];omega
theorem JL(p:List Int)(g k:Nat)(h:k≤4)(hp:p.length≤54):(mk3 p g k).length=64:=by unfold mk3;simp[bB,d8 p hp];omega
theorem F5(p:List Int)(k:Nat)(h:k<p.length)(hp:p.length≤54):(mk1 p k).set (2+k) p[k]=mk1 p (k+1):=by
 unfold mk1;rw[List.set_append_right _ _ (by rw[bB];omega),bB,show 2+k-2=k by omega,List.set_append_right _ _ (by simp;omega),List.length_take,Nat.min_eq_left (by omega),Nat.sub_self,show 62-k=(62-(k+1))+1 by omega,List.replicate_succ,List.set_cons_zero,List.take_succ_eq_append_getElem h,List.append_assoc];rfl
theorem F6(p:List Int)(hp:p.length≤54):zsec.set 1 (p.length:Int)=mk1 p 0:=by
 unfold mk1 zsec;rw[List.take_zero,List.nil_append];have e:beB 2 p.length=[0,(p.length:Int)]:=by
  simp only[beB];rw[show p.length/256 ^ 1 % 256=0 by omega,show p.length/256 ^ 0 % 256=p.length by omega];rfl
 rw[e];rfl
theorem JM(p:List Int)(hp:p.length≤54):mk1 p p.length=mk2 p 0 0:=by
 unfold mk1 mk2 body pad;rw[List.take_length,beB,List.append_nil,List.take_of_length_le (by simp[bB];omega)];simp[bB];omega
theorem F7(p:List Int)(g:Nat):mk2 p 0 0=mk2 p g 0:=rfl
theorem F8(p:List Int)(g k:Nat)(h:k<4)(hp:p.length≤54):(mk2 p g k).set (63-k) ((g/256 ^ k % 256:Nat):Int)=mk2 p g (k+1):=by
 have hl:=d8 p hp;unfold mk2;rw[show 64-k=(63-k)+1 by omega,List.take_succ_eq_append_getElem (by omega),List.append_assoc,List.set_append_right _ _ (by simp;omega),List.length_take,show 63-k-min (63-k) (body p).length=0 by omega,show 64-(k+1)=63-k by omega];rfl
theorem JN(p:List Int)(g:Nat)(hp:p.length≤54):(mk2 p g 4).take 56++(mk2 p g 4).drop 60=(body p).take 56++beB 4 g:=by
 have hl:=d8 p hp;unfold mk2;rw[List.take_append_of_le_length (by simp;omega),List.take_take,List.drop_left' (by simp;omega)];rfl
theorem JO(p:List Int)(g:Nat):mk2 p g 4=mk3 p g 0:=rfl
theorem F9(p:List Int)(g k:Nat)(h:k<4)(hp:p.length≤54):(mk3 p g k).set (59-k) ((bQ ((body p).take 56++beB 4 g)/256 ^ k % 256:Nat):Int)=mk3 p g (k+1):=by
 have hl:=d8 p hp;unfold mk3;rw[show 60-k=(59-k)+1 by omega,List.take_succ_eq_append_getElem (by omega),List.append_assoc,List.set_append_right _ _ (by simp;omega),List.length_take,show 59-k-min (59-k) (body p).length=0 by omega,show 60-(k+1)=59-k by omega];rfl
theorem JP(p:List Int)(g:Nat):mk3 p g 4=rec g p:=by unfold mk3 rec;rfl
theorem JQ(p:List Int)(g k:Nat)(hb:Bys p):Bys (mk2 p g k):=fun b h=>by
 rcases List.mem_append.1 h with h|h
 ·exact qS hb b (List.mem_of_mem_take h)
 ·exact gF _ _ b h
theorem JR(l:List Int)(i:Nat)(c:Int):(u8s l).set i (.int .u8 c)=u8s (l.set i c):=by simp[u8s,List.map_set]
theorem Blk.byte{w:World}{g:Nat}{t:TypeId}{l:List Int}(h:Blk w g t (u8s l).toArray)(i:Nat)(c:Int):Blk (w.setCell ⟨g,i,none⟩ (.int .u8 c)) g t (u8s (l.set i c)).toArray:=by
 have:=h.set_ i (.int .u8 c);rw[List.setIfInBounds_toArray,JR] at this;exact this
theorem Blk.byteAt{w:World}{g:Nat}{t:TypeId}{l:List Int}(h:Blk w g t (u8s l).toArray)(i:Nat)(hi:i<l.length):(∃ c,w.cell? ⟨g,i,none⟩=some (.int .u8 c))∧w.frozen? ⟨g,i,none⟩=false:=
 ⟨⟨l[i],by rw[h.cell i,List.getElem?_toArray];exact jI l i hi⟩,h.frozen i⟩
theorem rL(g:Nat)(p:List Int)(v:Value)(w:World)(hs:Sn w 1 v p.length (u8s p))(hb:Bys p)(hp:p.length≤54):
  Calls Tryz.prog 126 #[.int .u32 g,v] w fun e w'=>e = .returned (.agg (u8s (rec g p)).toArray)∧Below w.heap.size w w':=by
 obtain⟨A,cap,rfl,hcap,_,_⟩:=id hs;have HS:=jz hs;have HB:=jz hb;clear hs hb;obtain⟨w1,hw1⟩:=je ((w.alloc (.cells z64 144)).alloc (.cells z64 144));have hA1:Blk w1 w.heap.size 144 z64:=by rw[hw1];exact(Blk.new _ _ _).alloc _
 have hB1:Blk w1 (w.heap.size+1) 144 (u8s zsec).toArray:=by rw[hw1,← gJ];exact Blk.newAt _ _ _ _ (by simp)
 have hb1:Below w.heap.size w w1:=by rw[hw1];exact aB (aN _ _) (aN _ _)
 have hsz1:w1.heap.size=w.heap.size+2:=by rw[hw1];simp
 have hz64:zsec.length=64:=by simp[zsec]
 obtain⟨⟨c1,hc1⟩,hf1⟩:=hB1.byteAt 1 (by omega);have hB2:=hB1.byte 1 (p.length:Int);rw[F6 p hp] at hB2;have HA2:Hid (Blk (w1.setCell ⟨w.heap.size+1,1,none⟩ (.int .u8 (p.length:Int))) w.heap.size 144 z64):=jz (hA1.far (by simp) _);have HB2:=jz hB2;have HW2:Hid (Below w.heap.size w (w1.setCell ⟨w.heap.size+1,1,none⟩ (.int .u8 (p.length:Int)))):=jz (hb1.setCell (by simp) _);clear hA1 hB1 hb1 hB2;have k1:IntKind.u8.wrap (p.length:Int)=p.length:=by unfold IntKind.wrap;simp[IntKind.signed,IntKind.bits];omega
 go_enter Tryz.func126,Tryz.ntmps126
 go_upto_region 2 with (refine al 144 z64 rfl rfl cK ?_)
 rw[← hw1];clear hw1;go_upto_region 3 with fail
 obtain⟨w2,hw2⟩:=je (w1.setCell ⟨w.heap.size+1,1,none⟩ (.int .u8 (p.length:Int)));have hsz2:w2.heap.size=w.heap.size+2:=by rw[hw2];simp[hsz1]
 rw[← hw2] at HA2 HB2 HW2 ⊢;clear hw2 hc1 hf1;go_wp2_with fail
 obtain⟨N,hN⟩:=je w.heap.size;go_loopw [6] (fun i wr=>∃ k:Nat,k≤p.length∧i = .int .i64 k∧Hid (Blk wr w.heap.size 144 z64)∧Hid (Blk wr (w.heap.size+1) 144 (u8s (mk1 p k)).toArray)∧Hid (Below w.heap.size w wr)) (fun i _=>p.length-(intOf i).toNat)
 case atStart=>exact⟨0,Nat.zero_le _,rfl,HA2,HB2,HW2⟩
 case round=>
  obtain⟨k,hk,rfl,HAr,HBr,HWr⟩:=hrel;have hszr:=HWr.size;rcases Nat.lt_or_ge k p.length with hlt|hge
  ·obtain⟨A',cap',hv,_,_,hx⟩:=HS.below HWr.out;injection hv with hv _ hv2
   obtain⟨b,off,he,hcell⟩:=hx (by omega);subst hv hv2 he;have hi:=hcell k _ (jI p k hlt);obtain⟨⟨c,hc⟩,hf⟩:=HBr.byteAt (2+k) (by rw[JK p k hk hp];omega);have HB3:=jz (HBr.byte (2+k) p[k]);rw[F5 p k hlt hp] at HB3;have HA3:Hid (Blk (wr.setCell ⟨w.heap.size+1,2+k,none⟩ (.int .u8 p[k])) w.heap.size 144 z64):=jz (HAr.far (by simp) _);have HW3:Hid (Below w.heap.size w (wr.setCell ⟨w.heap.size+1,2+k,none⟩ (.int .u8 p[k]))):=jz (HWr.setCell (by simp) _);have hi0:(0:Int)≤k:=by omega
   have hi1:(k:Int)<p.length:=by omega
   obtain⟨x,hxd⟩:=je (p[k]);rw[← hxd] at hi HB3 HA3 HW3;clear hxd hcell hx;go_wp2_with fail
   exact⟨⟨k+1,by omega,by go_num,HA3,HB3,HW3⟩,by simp[intOf];omega⟩
  ·obtain rfl:k=p.length:=by omega
   have HB4:=HBr;rw[JM p hp,F7 p g] at HB4;clear HBr;go_wp2_with fail
   obtain⟨w3,rfl⟩:∃ w3:World,w3=wr:=⟨_,rfl⟩;go_loopw [7] (fun i wr=>∃ k:Nat,k≤4∧i = .int .i64 k∧Hid (Blk wr w.heap.size 144 z64)∧Hid (Blk wr (w.heap.size+1) 144 (u8s (mk2 p g k)).toArray)∧Hid (Below w.heap.size w wr)) (fun i _=>4-(intOf i).toNat)
   case atStart=>exact⟨0,Nat.zero_le _,rfl,HAr,HB4,HWr⟩
   case round=>
    obtain⟨k,hk,rfl,HAr,HBr,HWr⟩:=hrel;have hszr:=HWr.size;rcases Nat.lt_or_ge k 4 with hlt|hge
    ·obtain⟨⟨c,hc⟩,hf⟩:=HBr.byteAt (63-k) (by rw[vY p g k hk hp];omega);obtain⟨x,hxd⟩:∃ x:Nat,x=g/256 ^ k % 256:=⟨_,rfl⟩;have HB3:=jz (HBr.byte (63-k) ((g/256 ^ k % 256:Nat):Int));rw[F8 p g k hlt hp,← hxd] at HB3;have HA3:Hid (Blk (wr.setCell ⟨w.heap.size+1,63-k,none⟩ (.int .u8 (x:Int))) w.heap.size 144 z64):=jz (HAr.far (by simp) _);have HW3:Hid (Below w.heap.size w (wr.setCell ⟨w.heap.size+1,63-k,none⟩ (.int .u8 (x:Int)))):=jz (HWr.setCell (by simp) _);have e256:(256:Nat) ^ k=2 ^ (8*k):=by rw[Nat.pow_mul]
     have e:(g:Int)/2 ^ (8*k) % 256=(x:Int):=by
      rw[hxd,e256];simp
     have hi0:(0:Int)≤k:=by omega
     have hi1:(k:Int)<4:=by omega
     have HEX:=jz e;clear hxd e;go_wp2_with (refine KQ _ _ _ _ rfl rfl (n:=g) (m:=8*k) rfl (by exact congrArg (Value.int _) (by omega)) (by show 8*k≤32;omega) ?_)
     rw[HEX.out];exact⟨⟨k+1,by omega,by go_num,HA3,HB3,HW3⟩,by simp[intOf];omega⟩
    ·obtain rfl:k=4:=by omega
     have hr4:=HBr.range;rw[jt] at hr4;have hul:(u8s (mk2 p g 4)).length=64:=by rw[aP,vY p g 4 (by omega) hp]
     have HUL:=jz hul;clear hul;go_wp2_with (refine ld 144 _ rfl rfl rfl hr4 Tryz.underlying144 rfl (by rw[HUL.out];kernel_rfl) ?_)
     refine(uD (mk2 p g 4) wr (vY p g 4 (by omega) hp) (JQ p g 4 HB.out)).mono ?_;rintro e w4 ⟨rfl,hb4⟩;rw[JN p g hp];have HB4':=jz (HBr.keep hb4);have HA4:=jz (HAr.keep hb4);have HW4:=jz (aB HWr.out hb4);rw[JO] at HB4';have hsum:=lB ((body p).take 56++beB 4 g);have HM3:=jz (fun k (h:k<4)=>F9 p g k h hp);obtain⟨X,hX⟩:=je (bQ ((body p).take 56++beB 4 g));rw[← hX] at hsum HM3 ⊢;clear hX hb4 hr4 HBr HAr HWr HB4;go_wp2_with fail
     obtain⟨w5,hw5⟩:∃ w5:World,w5=w4:=⟨_,rfl⟩;go_loopw [9] (fun i wr=>∃ k:Nat,k≤4∧i = .int .i64 k∧Hid (Blk wr w.heap.size 144 z64)∧Hid (Blk wr (w.heap.size+1) 144 (u8s (mk3 p g k)).toArray)∧Hid (Below w.heap.size w wr)) (fun i _=>4-(intOf i).toNat)
     case atStart=>exact⟨0,Nat.zero_le _,rfl,HA4,HB4',HW4⟩
     case round=>
      obtain⟨k,hk,rfl,HAr,HBr,HWr⟩:=hrel;have hszr:=HWr.size;rcases Nat.lt_or_ge k 4 with hlt|hge
      ·obtain⟨⟨c,hc⟩,hf⟩:=HBr.byteAt (59-k) (by rw[JL p g k hk hp];omega);obtain⟨x,hxd⟩:∃ x:Nat,x=X/256 ^ k % 256:=⟨_,rfl⟩;have HB3:=jz (HBr.byte (59-k) ((X/256 ^ k % 256:Nat):Int));rw[HM3.out k hlt,← hxd] at HB3;have HA3:Hid (Blk (wr.setCell ⟨w.heap.size+1,59-k,none⟩ (.int .u8 (x:Int))) w.heap.size 144 z64):=jz (HAr.far (by simp) _);have HW3:Hid (Below w.heap.size w (wr.setCell ⟨w.heap.size+1,59-k,none⟩ (.int .u8 (x:Int)))):=jz (HWr.setCell (by simp) _);have e256:(256:Nat) ^ k=2 ^ (8*k):=by rw[Nat.pow_mul]
       have e:(X:Int)/2 ^ (8*k) % 256=(x:Int):=by
        rw[hxd,e256];simp
       have hi0:(0:Int)≤k:=by omega
       have hi1:(k:Int)<4:=by omega
       have HEX:=jz e;clear hxd e;go_wp2_with (refine KQ _ _ _ _ rfl rfl (n:=X) (m:=8*k) rfl (by exact congrArg (Value.int _) (by omega)) (by show 8*k≤32;omega) ?_)
       rw[HEX.out];exact⟨⟨k+1,by omega,by go_num,HA3,HB3,HW3⟩,by simp[intOf];omega⟩
      ·obtain rfl:k=4:=by omega
       rw[JP] at HBr;have hr5:=HBr.range;rw[jt] at hr5;have hrl:(u8s (rec g p)).length=64:=by rw[aP,d9 g p hp]
       have HRL:=jz hrl;have hzs:z64.size=(u8s (rec g p)).toArray.size:=by rw[cN,js,hrl]
       have h1:=cS (rec g p);have hi64:(Tryz.prog.info? 144).map (·.size)=some (u8s (rec g p)).toArray.size:=by rw[js,hrl];kernel_rfl
       clear hrl;go_wp2_with (first
        | (refine ld 144 _ rfl rfl rfl hr5 Tryz.underlying144 rfl (by rw[HRL.out];kernel_rfl) ?_)
        | (refine bC 144 (.tmp 4) (.tmp 55) rfl rfl rfl rfl HAr.out hi64 hzs h1 ?_;intro w6 hB6 hb6 _ _;have HB6:=jz hB6;have HE6:=jz hb6;clear hB6 hb6))
       refine bodyPost_ret (results_cell_row rfl _ _ w.heap.size 144 _ (0,0) _ rfl HB6.out Tryz.underlying144 rfl hi64) rfl ⟨rfl,?_⟩;exact HWr.trans (HE6.mono (Nat.le_refl _))
def tr1(old data:List Int)(c:Int)(k:Nat):List Int:=(bM old data c).take k++List.replicate (64-k) 0
theorem lM(old data:List Int)(c:Int)(ho:old.length=64)(hd:data.length=64):(bM old data c).length=64:=by
 have:=p9 c;unfold bM;simp[ho,hd];omega
theorem GA(old data:List Int)(c:Int)(hd:data.length=64)(k:Nat)(hk:k<64):(bM old data c)[k]? = if (k:Int)<c then data[k]? else old[k]?:=by
 have:=p9 c;unfold bM;by_cases h:(k:Int)<c
 ·rw[if_pos h,List.getElem?_append_left (by simp[hd,fK];omega),List.getElem?_take_of_lt (by unfold fK;omega)]
 ·have hc:fK c≤k:=by unfold fK;omega
  rw[if_neg h,List.getElem?_append_right (by simp[hd];omega),List.getElem?_drop,List.length_take,hd,Nat.min_eq_left (by omega),show fK c+(k-fK c)=k by omega]
theorem CI(old data:List Int)(c:Int)(ho:old.length=64)(hd:data.length=64)(k:Nat)(hk:k≤64):(tr1 old data c k).length=64:=by
 unfold tr1;have:=lM old data c ho hd;simp[this];omega
theorem yS(old data:List Int)(c:Int)(ho:old.length=64)(hd:data.length=64)(k:Nat)(hk:k<64)(x:Int)(hx:(bM old data c)[k]? = some x):(tr1 old data c k).set k x=tr1 old data c (k+1):=by
 have hl:=lM old data c ho hd;obtain⟨h1,h2⟩:=List.getElem?_eq_some_iff.1 hx;unfold tr1;rw[List.set_append_right _ _ (by simp;omega),List.length_take,show k-min k (bM old data c).length=0 by omega,show 64-k=(64-(k+1))+1 by omega,List.replicate_succ,List.set_cons_zero,List.take_succ_eq_append_getElem h1,h2,List.append_assoc];rfl
theorem vZ(l:List Int)(k:Nat)(x y:Int):(l.set k x).set k y=l.set k y:=by simp
theorem GB(old data:List Int)(c:Int)(w:World)(ho:Sec old)(hd:Sec data)(hc:aK c):
  Calls Tryz.prog 99 #[.agg (u8s old).toArray,.agg (u8s data).toArray,.int .i64 c] w fun e w'=>e = .returned (.agg (u8s (bM old data c)).toArray)∧Below w.heap.size w w':=by
 obtain⟨w1,hw1⟩:=je ((((w.alloc (.cells (u8s old).toArray 144)).alloc (.cells (u8s data).toArray 144)).alloc (.cells z64 144)).alloc (.cells z64 144));have hO:Blk w1 w.heap.size 144 (u8s old).toArray:=by rw[hw1];exact(((Blk.new _ _ _).alloc _).alloc _).alloc _
 have hD:Blk w1 (w.heap.size+1) 144 (u8s data).toArray:=by rw[hw1];exact((Blk.newAt _ _ _ _ (by simp)).alloc _).alloc _
 have hR:Blk w1 (w.heap.size+2) 144 z64:=by rw[hw1];exact(Blk.newAt _ _ _ _ (by simp)).alloc _
 have hB:Blk w1 (w.heap.size+3) 144 (u8s (tr1 old data c 0)).toArray:=by
  rw[hw1,show tr1 old data c 0=zsec by unfold tr1 zsec;rw[List.take_zero];rfl,← gJ];exact Blk.newAt _ _ _ _ (by simp)
 have hb:Below w.heap.size w w1:=by rw[hw1];exact aB (aB (aB (aN _ _) (aN _ _)) (aN _ _)) (aN _ _)
 have HO:=jz hO;have HD:=jz hD;have HR:=jz hR;have HB:=jz hB;have HW:=jz hb;have h1 : -9223372036854775808≤c:=hc.1;have h2:c≤9223372036854775807:=hc.2;clear hO hD hR hB hb hc;go_enter Tryz.func99,Tryz.ntmps99
 go_upto_region 2 with (refine al 144 z64 rfl rfl cK ?_)
 rw[← hw1];clear hw1;go_wp2_with fail
 go_loopw [8] (fun i wr=>∃ k:Nat,k≤64∧i = .int .i64 k∧Hid (Blk wr w.heap.size 144 (u8s old).toArray)∧Hid (Blk wr (w.heap.size+1) 144 (u8s data).toArray)∧Hid (Blk wr (w.heap.size+2) 144 z64)∧Hid (Blk wr (w.heap.size+3) 144 (u8s (tr1 old data c k)).toArray)∧Hid (Below w.heap.size w wr)) (fun i _=>64-(intOf i).toNat)
 case atStart=>exact⟨0,Nat.zero_le _,rfl,HO,HD,HR,HB,HW⟩
 case round=>
  obtain⟨k,hk,rfl,HOr,HDr,HRr,HBr,HWr⟩:=hrel;have hszr:=HWr.size;rcases Nat.lt_or_ge k 64 with hlt|hge
  ·have hat:=GA old data c hd.1 k hlt;obtain⟨a,ha,ea⟩:=jV ho.1 ho.2 k hlt;obtain⟨b,hb,eb⟩:=jV hd.1 hd.2 k hlt;have q1:wr.cell? ⟨w.heap.size,k,none⟩=some (.int .u8 (a:Nat)):=by rw[HOr.cell k,List.getElem?_toArray];exact fL ea
   have HQ2:Hid (wr.cell? ⟨w.heap.size+1,k,none⟩=some (.int .u8 (b:Nat))):=jz (by rw[HDr.cell k,List.getElem?_toArray];exact fL eb);obtain⟨⟨c0,hc⟩,hf⟩:=HBr.byteAt k (by rw[CI old data c ho.1 hd.1 k hk];omega);have B1:=HBr.byte k (a:Int);obtain⟨w2,hw2⟩:=je (wr.setCell ⟨w.heap.size+3,k,none⟩ (.int .u8 (a:Int)));have O1:Blk w2 w.heap.size 144 (u8s old).toArray:=by rw[hw2];exact HOr.far (by simp) _
   have D1:Blk w2 (w.heap.size+1) 144 (u8s data).toArray:=by rw[hw2];exact HDr.far (by simp) _
   have R1:Blk w2 (w.heap.size+2) 144 z64:=by rw[hw2];exact HRr.far (by simp) _
   have W1:Below w.heap.size w w2:=by rw[hw2];exact HWr.setCell (by simp) _
   rw[← hw2] at B1;have HO1:=jz O1;have HD1:=jz D1;have HR1:=jz R1;have HW1:=jz W1;have HB1:=jz B1;have hi0:(0:Int)≤k:=by omega
   have hi1:(k:Int)<64:=by omega
   clear O1 D1 R1 W1 B1;rcases jb (decide ((k:Int)<c)) with t1|t1
   ·rw[if_pos (of_decide_eq_true t1),eb] at hat;have hn:=yS old data c ho.1 hd.1 k hlt b hat;have HB2:=jz (HB1.byte k (b:Int));rw[vZ,hn] at HB2;have HO2:Hid (Blk (w2.setCell ⟨w.heap.size+3,k,none⟩ (.int .u8 (b:Int))) w.heap.size 144 (u8s old).toArray):=jz (HO1.far (by simp) _);have HD2:Hid (Blk (w2.setCell ⟨w.heap.size+3,k,none⟩ (.int .u8 (b:Int))) (w.heap.size+1) 144 (u8s data).toArray):=jz (HD1.far (by simp) _);have HR2:Hid (Blk (w2.setCell ⟨w.heap.size+3,k,none⟩ (.int .u8 (b:Int))) (w.heap.size+2) 144 z64):=jz (HR1.far (by simp) _);have HW2:Hid (Below w.heap.size w (w2.setCell ⟨w.heap.size+3,k,none⟩ (.int .u8 (b:Int)))):=jz (HW1.setCell (by simp) _);have q2:w2.cell? ⟨w.heap.size+1,k,none⟩=some (.int .u8 (b:Nat)):=by rw[HD1.cell k,List.getElem?_toArray];exact fL eb
    obtain⟨⟨c1,hc1⟩,hf1⟩:=HB1.byteAt k (by rw[List.length_set,CI old data c ho.1 hd.1 k hk];omega);clear hat ea eb hn HQ2;go_upto_region 6 with fail
    rw[← hw2];clear hw2;go_wp2_with fail
    exact⟨⟨k+1,by omega,by go_num,HO2,HD2,HR2,HB2,HW2⟩,by simp[intOf];omega⟩
   ·rw[if_neg (of_decide_eq_false t1),ea] at hat;have hn:=yS old data c ho.1 hd.1 k hlt a hat;rw[hn] at HB1;clear hat ea eb hn;go_upto_region 6 with fail
    rw[← hw2];clear hw2;go_wp2_with fail
    exact⟨⟨k+1,by omega,by go_num,HO1,HD1,HR1,HB1,HW1⟩,by simp[intOf];omega⟩
  ·obtain rfl:k=64:=by omega
   have hfin:tr1 old data c 64=bM old data c:=by unfold tr1;rw[List.take_of_length_le (by rw[lM old data c ho.1 hd.1];omega)];simp
   rw[hfin] at HBr;have hr5:=HBr.range;rw[jt] at hr5;have hrl:(u8s (bM old data c)).length=64:=by rw[aP,lM old data c ho.1 hd.1]
   have HRL:=jz hrl;have hzs:z64.size=(u8s (bM old data c)).toArray.size:=by rw[cN,js,hrl]
   have h1:=cS (bM old data c);have hi64:(Tryz.prog.info? 144).map (·.size)=some (u8s (bM old data c)).toArray.size:=by rw[js,hrl];kernel_rfl
   clear hrl;go_wp2_with (first
    | (refine ld 144 _ rfl rfl rfl hr5 Tryz.underlying144 rfl (by rw[HRL.out];kernel_rfl) ?_)
    | (refine bC 144 (.tmp 6) (.tmp 26) rfl rfl rfl rfl HRr.out hi64 hzs h1 ?_;intro w6 hB6 hb6 _ _;have HB6:=jz hB6;have HE6:=jz hb6;clear hB6 hb6))
   refine bodyPost_ret (results_cell_row rfl _ _ (w.heap.size+2) 144 _ (0,0) _ rfl HB6.out Tryz.underlying144 rfl hi64) rfl ⟨rfl,?_⟩;exact HWr.trans (HE6.mono (by omega))
structure St(w0 w:World)(m:DiskM)(d:DiskD):Prop where
 dk:DK w m d
 ft:∀ k∈bJ m,w0.heap.size≤k
 bel:Below w0.heap.size w0 w
def Apart(m:DiskM)(g:Nat):Prop:=g ∉ bJ m∧∀ k,aK k→∀ v,m.cv k=some v→v.ownBlock≠some g
theorem Apart.next{w w':World}{m m':DiskM}{g:Nat}(h:Apart m g)(hg:g<w.heap.size)(ht:DT w m w' m'):Apart m' g:=
 ⟨fun hm=>by
  rcases ht.sub g hm with hm|hm
  ·exact h.1 hm
  ·omega,fun k hk v hv e=>by
  rcases ht.cv k v hv with h1|h1
  ·exact h.2 k hk v h1 e
  ·have:=h1 g e;omega⟩
theorem DK.cv_lt{w:World}{m:DiskM}{d:DiskD}(h:DK w m d){k:Int}(hk:aK k){v:Value}(hv:m.cv k=some v):∀ b,v.ownBlock=some b→b<w.heap.size:=fun b e=>by
 have:=h.crv k hk;cases hc:d.cr k with
 | none=>rw[hc] at this;rw[this] at hv;cases hv
 | some cs=>
  rw[hc] at this;obtain⟨v2,h1,_,h3⟩:=this;rw[hv] at h1;injection h1 with h1
  subst h1;exact(h3 b e).2
theorem Apart.fresh{w:World}{m:DiskM}{d:DiskD}{g:Nat}(h:DK w m d)(hg:w.heap.size≤g):Apart m g:=
 ⟨h.notFoot hg,fun k hk v hv e=>by have:=h.cv_lt hk hv g e;omega⟩
theorem DK.offK{w w':World}{m:DiskM}{d:DiskD}{b:Nat}(h:DK w m d)(hk:∀ k,k≠b→w'.heap[k]? = w.heap[k]?)(hs:w.heap.size≤w'.heap.size)(ha:Apart m b):DK w' m d where
 blk:=(hk m.g (fun e=>ha.1 (e ▸ fU m))).trans h.blk
 sec:=bU h.sec fun x hx=>hk x (fun e=>ha.1 (e ▸ lC hx))
 opn:=bU h.opn fun x hx=>hk x (fun e=>ha.1 (e ▸ mZ hx))
 last:=h.last.of_block (hk _ (fun e=>ha.1 (e ▸ jP m)))
 fl:=h.fl.of_block (hk _ (fun e=>ha.1 (e ▸ jQ m)))
 cr:=h.cr.of_block (hk _ (fun e=>ha.1 (e ▸ iQ m)))
 nd:=h.nd
 flv:=h.flv
 crv:=fun k hi=>by
  have:=h.crv k hi;cases hc:d.cr k with
  | none=>rw[hc] at this;exact this
  | some cs=>
   rw[hc] at this;obtain⟨v,h1,h2,h3⟩:=this;refine⟨v,h1,?_,fun b hb=>⟨(h3 b hb).1,Nat.lt_of_lt_of_le (h3 b hb).2 hs⟩⟩;have hne:=ha.2 k hi v h1;obtain⟨A,cap,rfl,q1,q2,hx⟩:=h2;refine⟨A,cap,rfl,q1,q2,fun hp=>?_⟩;obtain⟨g,o,rfl,hcell⟩:=hx hp;exact⟨g,o,rfl,fun j u hj=>(World.cell?_of_block (a:=⟨g,o+j,none⟩) (hk g (fun e=>hne (by rw[e];rfl)))).trans (hcell j u hj)⟩
 ok:=h.ok
structure LB(w:World)(m:DiskM)(g:Nat)(t:TypeId)(cs:Array Value):Prop where
 blk:Blk w g t cs
 nf:g ∉ bJ m
structure LS(w:World)(m:DiskM)(s:Nat)(v:Value)(n:Nat)(xs:List Value):Prop where
 sn:Sn w s v n xs
 nf:∀ b,v.ownBlock=some b→b ∉ bJ m∧b<w.heap.size
theorem St.keep{w0 w w':World}{m:DiskM}{d:DiskD}(h:St w0 w m d)(hb:Below w.heap.size w w'):St w0 w' m d:=⟨h.dk.keep hb,h.ft,aB h.bel hb⟩
theorem St.next{w0 w w':World}{m m':DiskM}{d d':DiskD}(h:St w0 w m d)(hk:DK w' m' d')(ht:DT w m w' m'):St w0 w' m' d':=
 ⟨hk,ht.le h.ft h.bel.size,h.bel.trans (ht.below h.ft h.bel.size)⟩
theorem St.drew{w0 w:World}{m:DiskM}{d:DiskD}(h:St w0 w m d)(n:Nat):St w0 (w.drewN n) m d:=h.keep (bR (Below.refl _ _) n)
theorem LB.keep{w w':World}{m:DiskM}{g:Nat}{t:TypeId}{cs:Array Value}(h:LB w m g t cs)(hb:Below w.heap.size w w'):LB w' m g t cs:=⟨h.blk.keep hb,h.nf⟩
theorem LB.next{w w':World}{m m':DiskM}{g:Nat}{t:TypeId}{cs:Array Value}(h:LB w m g t cs)(ht:DT w m w' m'):LB w' m' g t cs:=
 ⟨(ht.off h.blk.lt h.nf).trans h.blk,fun hm=>by
  rcases ht.sub g hm with hm|hm
  ·exact h.nf hm
  ·have:=h.blk.lt;omega⟩
theorem LB.old{w0 w:World}{m:DiskM}{d:DiskD}{g:Nat}{t:TypeId}{cs:Array Value}(h:St w0 w m d)(hb:Blk w0 g t cs):LB w m g t cs:=
 ⟨hb.keep h.bel,fun hm=>by have:=h.ft g hm;have:=hb.lt;omega⟩
theorem LB.fresh{w w':World}{m:DiskM}{d:DiskD}{g:Nat}{t:TypeId}{cs:Array Value}(h:DK w m d)(hg:w.heap.size≤g)(hb:Blk w' g t cs):LB w' m g t cs:=⟨hb,h.notFoot hg⟩
theorem LS.keep{w w':World}{m:DiskM}{s n:Nat}{v:Value}{xs:List Value}(h:LS w m s v n xs)(hb:Below w.heap.size w w'):LS w' m s v n xs:=
 ⟨h.sn.below hb,fun b e=>⟨(h.nf b e).1,Nat.lt_of_lt_of_le (h.nf b e).2 hb.size⟩⟩
theorem LS.next{w w':World}{m m':DiskM}{s n:Nat}{v:Value}{xs:List Value}(h:LS w m s v n xs)(ht:DT w m w' m'):LS w' m' s v n xs:=
 ⟨ht.fo.sn h.sn (fun b e=>(h.nf b e).1),fun b e=>⟨fun hm=>by
  rcases ht.sub b hm with hm|hm
  ·exact(h.nf b e).1 hm
  ·have:=(h.nf b e).2;omega,Nat.lt_of_lt_of_le (h.nf b e).2 ht.fo.size⟩⟩
theorem LS.old{w0 w:World}{m:DiskM}{d:DiskD}{s n:Nat}{v:Value}{xs:List Value}(h:St w0 w m d)(hs:Sn w0 s v n xs)(hl:∀ b,v.ownBlock=some b→b<w0.heap.size):LS w m s v n xs:=
 ⟨hs.below h.bel,fun b e=>⟨fun hm=>by have:=h.ft b hm;have:=hl b e;omega,Nat.lt_of_lt_of_le (hl b e) h.bel.size⟩⟩
theorem LS.own{w w':World}{m:DiskM}{d:DiskD}{t s n:Nat}{v:Value}{xs:List Value}(h:DK w m d)(ho:w'.ownsRow w.heap.size t s v n xs):LS w' m s v n xs:=
 ⟨Sn.own ho,fun b e=>⟨h.notFoot (World.ownsRow.lt ho b e).1,(World.ownsRow.lt ho b e).2⟩⟩
theorem Sn.blk_lt{w:World}{s n cap:Nat}{A:Option Addr}{xs:List Value}(h:Sn w s (.slice A n cap) n xs)(hn:0<n)(hs:0<s):∀ b,(Value.slice A n cap).ownBlock=some b→b<w.heap.size:=by
 obtain⟨A',cap',hv,_,hl,hx⟩:=h;injection hv with hA _ _
 subst hA;obtain⟨b,off,rfl,hcell⟩:=hx hn;intro b' e;injection e with e
 subst e;have hp:0<xs.length:=by rw[hl];exact Nat.mul_pos hn hs
 exact fJ (hcell 0 _ (List.getElem?_eq_getElem hp))
theorem Sn.take{w:World}{s n cap:Nat}{A:Option Addr}{xs:List Value}(h:Sn w s (.slice A n cap) n xs)(k:Nat)(hk:k≤n):Sn w s (.slice A k cap) k (xs.take (k*s)):=by
 obtain⟨A',cap',hv,hcap,hl,hx⟩:=h;injection hv with hA _ hc
 subst hA hc;have:=Nat.mul_le_mul_right s hk;refine⟨_,_,rfl,by omega,by rw[List.length_take];omega,fun hp=>?_⟩;obtain⟨b,off,rfl,hcell⟩:=hx (by omega);refine⟨b,off,rfl,fun j u hj=>hcell j u ?_⟩;rw[List.getElem?_take] at hj;split at hj
 ·exact hj
 ·cases hj
end Go.Proofs.YtombncedfleljaaGreat
