/- The hash of shb in plain words: Arguments of a law, opened: A scope out of which the run jumps forward to one label. The hash of sha in plain words: Arguments of a law that hold st. Condition: as each theorem says. -/
import Derived.Deep.DeepCutAuto
import Derived.Deep.Slices
import Derived.OpenShut
import Derived.ProofKit
import Derived.ScopeJumps
import Derived.WalkMore
import Derived.Test.YthdgbgleklkaiaaDoorQa01
set_option linter.unusedSimpArgs false
set_option linter.unusedVariables false
set_option maxRecDepth 100000
set_option maxHeartbeats 16000000
namespace Go.Proofs.YthdgbgleklkaiaaDoor.Hb
open Go.RowKit
def K:List Int:=[4794697086780616226,8158064640168781261,13096744586834688815,16840607885511220156,4131703408338449720,6480981068601479193,10538285296894168987,12329834152419229976,15566598209576043074,1334009975649890238,2608012711638119052,6128411473006802146,8268148722764581231,9286055187155687089,11230858885718282805,13951009754708518548,16472876342353939154,17275323862435702243,1135362057144423861,2597628984639134821,3308224258029322869,5365058923640841347,6679025012923562964,8573033837759648693,10970295158949994411,12119686244451234320,12683024718118986047,13788192230050041572,14330467153632333762,15395433587784984357,489312712824947311,1452737877330783856,2861767655752347644,3322285676063803686,5560940570517711597,5996557281743188959,7280758554555802590,8532644243296465576,9350256976987008742,10552545826968843579,11727347734174303076,12113106623233404929,14000437183269869457,14369950271660146224,15101387698204529176,15463397548674623760,17586052441742319658,1182934255886127544,1847814050463011016,2177327727835720531,2830643537854262169,3796741975233480872,4115178125766777443,5681478168544905931,6601373596472566643,7507060721942968483,8399075790359081724,8693463985226723168,9568029438360202098,10144078919501101548,10430055236837252648,11840083180663258601,13761210420658862357,14299343276471374635,14566680578165727644,15097957966210449927,16922976911328602910,17689382322260857208,500013540394364858,748580250866718886,1242879168328830382,1977374033974150939,2944078676154940804,3659926193048069267,4368137639120453308,4836135668995329356,5532061633213252278,6448918945643986474,6902733635092675308,7801388544844847127]
def H0:List Int:=[7640891576956012808,13503953896175478587,4354685564936845355,11912009170470909681,5840696475078001361,11170449401992604703,2270897969802886507,6620516959819538809]
def eU (x n m:Int):Int:=bits .or .u64 (IntKind.u64.wrap (x * m)) (x / n)
def add (x y:Int):Int:=IntKind.u64.wrap (x+y)
def s0 (x:Int):Int:=bits .xor .u64 (bits .xor .u64 (eU x 2 9223372036854775808) (eU x 256 72057594037927936)) (x / 128)
def s1 (x:Int):Int:=bits .xor .u64 (bits .xor .u64 (eU x 524288 35184372088832) (eU x 2305843009213693952 8)) (x / 64)
def e1 (x:Int):Int:=bits .xor .u64 (bits .xor .u64 (eU x 16384 1125899906842624) (eU x 262144 70368744177664)) (eU x 2199023255552 8388608)
def e0 (x:Int):Int:=bits .xor .u64 (bits .xor .u64 (eU x 268435456 68719476736) (eU x 17179869184 1073741824)) (eU x 549755813888 33554432)
def ch (e f g:Int):Int:=bits .xor .u64 (bits .and .u64 e f) (bits .and .u64 (bits .xor .u64 (if IntKind.u64.signed=true then -1 else IntKind.u64.max) e) g)
def maj (a b c:Int):Int:=bits .xor .u64 (bits .xor .u64 (bits .and .u64 a b) (bits .and .u64 a c)) (bits .and .u64 b c)
def tx (k w:Int) (v:List Int):Int:=add (add (add (add (v.getD 7 0) (e1 (v.getD 4 0))) (ch (v.getD 4 0) (v.getD 5 0) (v.getD 6 0))) k) w
def ty (v:List Int):Int:=add (e0 (v.getD 0 0)) (maj (v.getD 0 0) (v.getD 1 0) (v.getD 2 0))
def rnd (k w:Int) (v:List Int):List Int:=[add (tx k w v) (ty v),v.getD 0 0,v.getD 1 0,v.getD 2 0,add (v.getD 3 0) (tx k w v),v.getD 4 0,v.getD 5 0,v.getD 6 0]
def next (ws:List Int) (t:Nat):Int:=add (add (add (s1 (ws.getD (t - 2) 0)) (ws.getD (t - 7) 0)) (s0 (ws.getD (t - 15) 0))) (ws.getD (t - 16) 0)
def part (b:List Int) (o:Nat):Nat→Int
 | 0=>0
 | n+1=>bits .or .u64 (IntKind.u64.wrap (part b o n * 256)) (b.getD (o+n) 0)
def pre (b:List Int) (i:Nat):List Int:=(List.range 80).map fun j=>part b (8 * j) (min 8 (i - 8 * j))
def sched (b:List Int) (n:Nat):List Int:=(List.range n).foldl (fun ws j=>ws.set (16+j) (next ws (16+j))) (pre b 128)
def rounds (ws h:List Int) (n:Nat):List Int:=(List.range n).foldl (fun v t=>rnd (K.getD t 0) (ws.getD t 0) v) h
def sums (h v:List Int) (n:Nat):List Int:=h.mapIdx fun i x=>if i < n then add x (v.getD i 0) else x
def comp (h b:List Int):List Int:=sums h (rounds (sched b 64) h 80) 8
theorem DZ (b:List Int) (i:Nat):(pre b i).length=80:=by simp [pre]
theorem kX (b:List Int):pre b 0=List.replicate 80 0:=by
 unfold pre
 apply List.ext_getElem
 ·simp
 ·intro i h1 h2
  rw [List.getElem_replicate,List.getElem_map,Nat.zero_sub,Nat.min_zero]
  rfl
theorem pre_get (b:List Int) (i j:Nat) (hj:j < 80):(pre b i).getD j 0=part b (8 * j) (min 8 (i - 8 * j)):=by simp [pre,List.getD,hj]
theorem UE (b:List Int) (i:Nat) (hi:i < 128):pre b (i+1)=(pre b i).set (i / 8) (bits .or .u64 (IntKind.u64.wrap ((pre b i).getD (i / 8) 0 * 256)) (b.getD i 0)):=by
 rw [pre_get _ _ _ (by omega)]
 apply List.ext_getElem
 ·simp [pre]
 ·intro j h1 h2
  simp only [pre,List.length_map,List.length_range] at h1
  rw [List.getElem_set]
  simp only [pre,List.getElem_map,List.getElem_range]
  by_cases e:i / 8=j
  ·subst e
   rw [if_pos rfl,show min 8 (i+1 - 8 * (i / 8))=i % 8+1 by omega,show min 8 (i - 8 * (i / 8))=i % 8 by omega,part,show 8 * (i / 8)+i % 8=i by omega]
  ·rw [if_neg e]
   congr 1
   omega
theorem kU (b:List Int) (n:Nat):sched b (n+1)=(sched b n).set (16+n) (next (sched b n) (16+n)):=by simp [sched,List.range_succ,List.foldl_append]
theorem mE (b:List Int) (n:Nat):(sched b n).length=80:=by
 induction n with
 | zero=>simp [sched,pre]
 | succ n ih=>rw [kU,List.length_set,ih]
theorem rounds_succ (ws h:List Int) (n:Nat):rounds ws h (n+1)=rnd (K.getD n 0) (ws.getD n 0) (rounds ws h n):=by simp [rounds,List.range_succ,List.foldl_append]
theorem kV (ws h:List Int) (hh:h.length=8) (n:Nat):(rounds ws h n).length=8:=by
 cases n with
 | zero=>simpa [rounds] using hh
 | succ n=>rw [rounds_succ];rfl
theorem uQ (h v:List Int):sums h v 0=h:=by
 unfold sums
 apply List.ext_getElem <;> simp
theorem yJ (h v:List Int) (n:Nat):(sums h v n).length=h.length:=by simp [sums]
theorem yK (h v:List Int) (n i:Nat) (hi:i < h.length) (hn:n≤i):(sums h v n).getD i 0=h.getD i 0:=by
 simp [sums,List.getD,hi]
 omega
theorem uR (h v:List Int) (n:Nat) (_hn:n < h.length):sums h v (n+1)=(sums h v n).set n (add (h.getD n 0) (v.getD n 0)):=by
 apply List.ext_getElem
 ·simp [sums]
 ·intro i h1 h2
  simp only [sums,List.length_mapIdx] at h1
  rw [List.getElem_set]
  simp only [sums,List.getElem_mapIdx]
  by_cases e:n=i
  ·subst e
   rw [if_pos (by omega),if_pos rfl]
   simp [List.getD,h1]
  ·rw [if_neg e]
   by_cases e2:i < n
   ·rw [if_pos (by omega),if_pos e2]
   ·rw [if_neg (by omega),if_neg e2]
theorem pJ (h b:List Int):(comp h b).length=h.length:=yJ _ _ _
structure S where
 h:List Int
 b:List Int
 n:Nat
def S.take (s:S) (x:Int):S:=if s.n+1=128 then ⟨comp s.h (s.b.set s.n x),s.b.set s.n x,0⟩ else ⟨s.h,s.b.set s.n x,s.n+1⟩
def S.all (s:S) (xs:List Int):S:=xs.foldl S.take s
def S.new:S:=⟨H0,List.replicate 128 0,0⟩
def tail (n:Nat):List Int:=128 :: List.replicate ((2 * 128 - 16 - 1 - n % 128) % 128) 0 ++ List.replicate (16 - 8) 0 ++ (List.range 8).map fun i=>((8 * n / 2 ^ (8 * (7 - i)) % 256:Nat):Int)
def digest (h:List Int):List Int:=(List.range 64).map fun i=>h.getD (i / 8) 0 / 2 ^ (8 * (7 - i % 8)) % 256
def hash (m:List Int):List Int:=digest ((S.new.all (m ++ tail m.length)).h)
theorem dZ (m:List Int):(hash m).length=64:=by simp [hash,digest]
structure S.Ok (s:S):Prop where
 h:s.h.length=8
 b:s.b.length=128
 n:s.n < 128
 by0:∀ x∈s.b,0≤x∧x≤255
theorem S.Ok.take {s:S} (h:s.Ok) (x:Int) (hx:0≤x∧x≤255):(s.take x).Ok:=by
 have hn:=h.n
 have hb:∀ y∈s.b.set s.n x,0≤y∧y≤255:=by
  intro y hy
  rcases List.mem_or_eq_of_mem_set hy with h1|rfl
  ·exact h.by0 y h1
  ·exact hx
 unfold S.take
 split
 ·exact ⟨(pJ _ _).trans h.h,by rw [List.length_set];exact h.b,by show 0 < _;omega,hb⟩
 ·exact ⟨h.h,by rw [List.length_set];exact h.b,by show s.n+1 < _;omega,hb⟩
theorem S.Ok.all {s:S} (h:s.Ok):∀ (xs:List Int),(∀ x∈xs,0≤x∧x≤255)→(s.all xs).Ok:=by
 intro xs
 induction xs generalizing s with
 | nil=>intro _;exact h
 | cons x xs ih=>intro hx;exact ih (h.take x (hx x (by simp))) fun y hy=>hx y (by simp [hy])
theorem S.Ok.new:S.new.Ok:=by
 refine ⟨rfl,by simp [S.new],by simp [S.new],?_⟩
 intro x hx
 have:=List.eq_of_mem_replicate hx
 omega
theorem S.yD (s:S) (h:s.n < 128) (x:Int):(s.take x).n=(s.n+1) % 128:=by
 unfold S.take
 split
 ·rename_i e;rw [e]
 ·show s.n+1=_;omega
theorem S.Iw:∀ (xs:List Int) (s:S),s.n < 128→(s.all xs).n=(s.n+xs.length) % 128
 | [],s,h=>by show s.n=_;simp;omega
 | x :: xs,s,h=>by
  have h1:(s.take x).n < 128:=by rw [S.yD s h];omega
  have:=S.Iw xs (s.take x) h1
  show ((s.take x).all xs).n=_
  rw [this,S.yD s h,List.length_cons]
  omega
theorem S.all_append (s:S) (xs ys:List Int):s.all (xs ++ ys)=(s.all xs).all ys:=by simp [S.all,List.foldl_append]
theorem S.pU (s:S) (xs:List Int) (x:Int):s.all (xs ++ [x])=(s.all xs).take x:=by simp [S.all,List.foldl_append]
end Go.Proofs.YthdgbgleklkaiaaDoor.Hb
namespace Go.Proofs.YthdgbgleklkaiaaDoor
open Go.RowKit Go.ChangeShapes Go.WideShapes
def BJ (k:IntKind) (w:World) (a:Option Addr) (len cap:Nat) (zs:List Int):Prop :=
 (a=none∧len=0∧cap=0∧zs=[]) ∨
 ∃ x,a=some x∧len≤cap∧cap≤maxLen∧zs.length=cap∧(∀ i,i < zs.length→w.cell? (x.add i)=some (.int k (zs.getD i 0)))∧∀ n∈zs,(Lit.int k n).wf=true
section
variable {H:Type} {enc:TypeId×Value→H} {P:Program} {w:World} {base:Nat} {spare:Nat→Bool} {held:Bool}
theorem row_of {k:IntKind} {t e:TypeId} {a:Option Addr} {len cap fuel:Nat} {x:DataW H×List MemPlace} (ht:P.underlying t=some (.slice e)) (he:P.underlying e=some (.int k)) (hc:P.cellsOf e=1)
  (hf:DataW.trod enc P w base (fun _=>true) held fuel t (Value.slice a len cap).cells.toList=some x):∃ zs,BJ k w a len cap zs:=by
 rcases open_ints ht he hc hf with ⟨hcs,_⟩|⟨x,l,c,zs,hcs,_,hl,hm,hz,_,hcell,hwz⟩
 ·simp [Value.cells] at hcs
  obtain ⟨rfl,rfl,rfl⟩:=hcs
  exact ⟨[], .inl ⟨rfl,rfl,rfl,rfl⟩⟩
 ·simp [Value.cells] at hcs
  obtain ⟨rfl,rfl,rfl⟩:=hcs
  exact ⟨zs, .inr ⟨_,rfl,hl,hm,by simpa using hz,hcell,hwz⟩⟩
theorem z8 {k:IntKind}:∀ (n:Nat) (cs:List Value),cs.length=n→(∀ i,i < n→∃ z,(cs.drop i).take 1=[.int k z]∧(Lit.int k z).wf=true)→∃ zs:List Int,cs=zs.map (Value.int k)∧zs.length=n∧∀ z∈zs,(Lit.int k z).wf=true
 | 0,cs,hl,_=>⟨[],by simpa using List.eq_nil_of_length_eq_zero hl,rfl,by simp⟩
 | n+1,cs,hl,h=>by
  cases cs with
  | nil=>simp at hl
  | cons c cs =>
   obtain ⟨z,h1,h2⟩:=h 0 (by omega)
   simp at h1
   obtain ⟨zs,e,l,m⟩:=z8 n cs (by simpa using hl) (fun i hi=>by simpa using h (i+1) (by omega))
   refine ⟨z :: zs,by simp [h1,e],by simp [l],?_⟩
   intro y hy
   rcases List.mem_cons.1 hy with rfl|hy
   ·exact h2
   ·exact m y hy
theorem wf_u8 {n:Int} (h:(Lit.int .u8 n).wf=true):0≤n∧n≤255:=bounds_u8 h
theorem wf_i64 {n:Int} (h:(Lit.int .i64 n).wf=true) : -9223372036854775808≤n∧n≤9223372036854775807:=bounds_i64 h
end
end Go.Proofs.YthdgbgleklkaiaaDoor
namespace Go.Proofs.YthdgbgleklkaiaaDoor
open Go.RowKit
theorem Dx {P:Program} {a:Act} {w:World} {Q:Exit→Act→World→Prop} {c rest:Code} (l:Nat) (hf:findLabel c l=some rest)
  (h:c.wp P (Exit.jump l (fun a w=>rest.wp P (Exit.noGoto Q) a w) Q) a w):(Code.scope c).wp P Q a w:=by
 refine wp_scope_jumps l (fun a w=>rest.wp P (Exit.noGoto Q) a w) (fun _ _=>0) hf h (fun a w hJ=>Code.wp_mono (fun e a w q=>?_) hJ)
 cases e <;> first|exact q|exact q.elim
end Go.Proofs.YthdgbgleklkaiaaDoor
namespace Go.Proofs.YthdgbgleklkaiaaDoor.Ha
open Go.RowKit
def K:List Int:=[1116352408,1899447441,3049323471,3921009573,961987163,1508970993,2453635748,2870763221,3624381080,310598401,607225278,1426881987,1925078388,2162078206,2614888103,3248222580,3835390401,4022224774,264347078,604807628,770255983,1249150122,1555081692,1996064986,2554220882,2821834349,2952996808,3210313671,3336571891,3584528711,113926993,338241895,666307205,773529912,1294757372,1396182291,1695183700,1986661051,2177026350,2456956037,2730485921,2820302411,3259730800,3345764771,3516065817,3600352804,4094571909,275423344,430227734,506948616,659060556,883997877,958139571,1322822218,1537002063,1747873779,1955562222,2024104815,2227730452,2361852424,2428436474,2756734187,3204031479,3329325298]
def H0:List Int:=[1779033703,3144134277,1013904242,2773480762,1359893119,2600822924,528734635,1541459225]
def eU (x n m:Int):Int:=bits .or .u32 (IntKind.u32.wrap (x * m)) (x / n)
def add (x y:Int):Int:=IntKind.u32.wrap (x+y)
def s0 (x:Int):Int:=bits .xor .u32 (bits .xor .u32 (eU x 128 33554432) (eU x 262144 16384)) (x / 8)
def s1 (x:Int):Int:=bits .xor .u32 (bits .xor .u32 (eU x 131072 32768) (eU x 524288 8192)) (x / 1024)
def e1 (x:Int):Int:=bits .xor .u32 (bits .xor .u32 (eU x 64 67108864) (eU x 2048 2097152)) (eU x 33554432 128)
def e0 (x:Int):Int:=bits .xor .u32 (bits .xor .u32 (eU x 4 1073741824) (eU x 8192 524288)) (eU x 4194304 1024)
def ch (e f g:Int):Int:=bits .xor .u32 (bits .and .u32 e f) (bits .and .u32 (bits .xor .u32 (if IntKind.u32.signed=true then -1 else IntKind.u32.max) e) g)
def maj (a b c:Int):Int:=bits .xor .u32 (bits .xor .u32 (bits .and .u32 a b) (bits .and .u32 a c)) (bits .and .u32 b c)
def tx (k w:Int) (v:List Int):Int:=add (add (add (add (v.getD 7 0) (e1 (v.getD 4 0))) (ch (v.getD 4 0) (v.getD 5 0) (v.getD 6 0))) k) w
def ty (v:List Int):Int:=add (e0 (v.getD 0 0)) (maj (v.getD 0 0) (v.getD 1 0) (v.getD 2 0))
def rnd (k w:Int) (v:List Int):List Int:=[add (tx k w v) (ty v),v.getD 0 0,v.getD 1 0,v.getD 2 0,add (v.getD 3 0) (tx k w v),v.getD 4 0,v.getD 5 0,v.getD 6 0]
def next (ws:List Int) (t:Nat):Int:=add (add (add (s1 (ws.getD (t - 2) 0)) (ws.getD (t - 7) 0)) (s0 (ws.getD (t - 15) 0))) (ws.getD (t - 16) 0)
def part (b:List Int) (o:Nat):Nat→Int
 | 0=>0
 | n+1=>bits .or .u32 (IntKind.u32.wrap (part b o n * 256)) (b.getD (o+n) 0)
def pre (b:List Int) (i:Nat):List Int:=(List.range 64).map fun j=>part b (4 * j) (min 4 (i - 4 * j))
def sched (b:List Int) (n:Nat):List Int:=(List.range n).foldl (fun ws j=>ws.set (16+j) (next ws (16+j))) (pre b 64)
def rounds (ws h:List Int) (n:Nat):List Int:=(List.range n).foldl (fun v t=>rnd (K.getD t 0) (ws.getD t 0) v) h
def sums (h v:List Int) (n:Nat):List Int:=h.mapIdx fun i x=>if i < n then add x (v.getD i 0) else x
def comp (h b:List Int):List Int:=sums h (rounds (sched b 48) h 64) 8
theorem DZ (b:List Int) (i:Nat):(pre b i).length=64:=by simp [pre]
theorem kX (b:List Int):pre b 0=List.replicate 64 0:=by
 unfold pre
 apply List.ext_getElem
 ·simp
 ·intro i h1 h2
  rw [List.getElem_replicate,List.getElem_map,Nat.zero_sub,Nat.min_zero]
  rfl
theorem kU (b:List Int) (n:Nat):sched b (n+1)=(sched b n).set (16+n) (next (sched b n) (16+n)):=by simp [sched,List.range_succ,List.foldl_append]
theorem mE (b:List Int) (n:Nat):(sched b n).length=64:=by
 induction n with
 | zero=>simp [sched,pre]
 | succ n ih=>rw [kU,List.length_set,ih]
theorem rounds_succ (ws h:List Int) (n:Nat):rounds ws h (n+1)=rnd (K.getD n 0) (ws.getD n 0) (rounds ws h n):=by simp [rounds,List.range_succ,List.foldl_append]
theorem kV (ws h:List Int) (hh:h.length=8) (n:Nat):(rounds ws h n).length=8:=by
 cases n with
 | zero=>simpa [rounds] using hh
 | succ n=>rw [rounds_succ];rfl
theorem uQ (h v:List Int):sums h v 0=h:=by
 unfold sums
 apply List.ext_getElem <;> simp
theorem yJ (h v:List Int) (n:Nat):(sums h v n).length=h.length:=by simp [sums]
theorem yK (h v:List Int) (n i:Nat) (hi:i < h.length) (hn:n≤i):(sums h v n).getD i 0=h.getD i 0:=by
 simp [sums,List.getD,hi]
 omega
theorem uR (h v:List Int) (n:Nat) (_hn:n < h.length):sums h v (n+1)=(sums h v n).set n (add (h.getD n 0) (v.getD n 0)):=by
 apply List.ext_getElem
 ·simp [sums]
 ·intro i h1 h2
  simp only [sums,List.length_mapIdx] at h1
  rw [List.getElem_set]
  simp only [sums,List.getElem_mapIdx]
  by_cases e:n=i
  ·subst e
   rw [if_pos (by omega),if_pos rfl]
   simp [List.getD,h1]
  ·rw [if_neg e]
   by_cases e2:i < n
   ·rw [if_pos (by omega),if_pos e2]
   ·rw [if_neg (by omega),if_neg e2]
theorem pJ (h b:List Int):(comp h b).length=h.length:=yJ _ _ _
structure S where
 h:List Int
 b:List Int
 n:Nat
def S.take (s:S) (x:Int):S:=if s.n+1=64 then ⟨comp s.h (s.b.set s.n x),s.b.set s.n x,0⟩ else ⟨s.h,s.b.set s.n x,s.n+1⟩
def S.all (s:S) (xs:List Int):S:=xs.foldl S.take s
def S.new:S:=⟨H0,List.replicate 64 0,0⟩
def tail (n:Nat):List Int:=128 :: List.replicate ((2 * 64 - 8 - 1 - n % 64) % 64) 0 ++ List.replicate (8 - 8) 0 ++ (List.range 8).map fun i=>((8 * n / 2 ^ (8 * (7 - i)) % 256:Nat):Int)
def digest (h:List Int):List Int:=(List.range 32).map fun i=>h.getD (i / 4) 0 / 2 ^ (8 * (3 - i % 4)) % 256
def hash (m:List Int):List Int:=digest ((S.new.all (m ++ tail m.length)).h)
theorem dZ (m:List Int):(hash m).length=32:=by simp [hash,digest]
structure S.Ok (s:S):Prop where
 h:s.h.length=8
 b:s.b.length=64
 n:s.n < 64
 by0:∀ x∈s.b,0≤x∧x≤255
theorem S.Ok.take {s:S} (h:s.Ok) (x:Int) (hx:0≤x∧x≤255):(s.take x).Ok:=by
 have hn:=h.n
 have hb:∀ y∈s.b.set s.n x,0≤y∧y≤255:=by
  intro y hy
  rcases List.mem_or_eq_of_mem_set hy with h1|rfl
  ·exact h.by0 y h1
  ·exact hx
 unfold S.take
 split
 ·exact ⟨(pJ _ _).trans h.h,by rw [List.length_set];exact h.b,by show 0 < _;omega,hb⟩
 ·exact ⟨h.h,by rw [List.length_set];exact h.b,by show s.n+1 < _;omega,hb⟩
theorem S.Ok.all {s:S} (h:s.Ok):∀ (xs:List Int),(∀ x∈xs,0≤x∧x≤255)→(s.all xs).Ok:=by
 intro xs
 induction xs generalizing s with
 | nil=>intro _;exact h
 | cons x xs ih=>intro hx;exact ih (h.take x (hx x (by simp))) fun y hy=>hx y (by simp [hy])
theorem S.Ok.new:S.new.Ok:=by
 refine ⟨rfl,by simp [S.new],by simp [S.new],?_⟩
 intro x hx
 have:=List.eq_of_mem_replicate hx
 omega
theorem S.yD (s:S) (h:s.n < 64) (x:Int):(s.take x).n=(s.n+1) % 64:=by
 unfold S.take
 split
 ·rename_i e;rw [e]
 ·show s.n+1=_;omega
theorem S.Iw:∀ (xs:List Int) (s:S),s.n < 64→(s.all xs).n=(s.n+xs.length) % 64
 | [],s,h=>by show s.n=_;simp;omega
 | x :: xs,s,h=>by
  have h1:(s.take x).n < 64:=by rw [S.yD s h];omega
  have:=S.Iw xs (s.take x) h1
  show ((s.take x).all xs).n=_
  rw [this,S.yD s h,List.length_cons]
  omega
theorem S.all_append (s:S) (xs ys:List Int):s.all (xs ++ ys)=(s.all xs).all ys:=by simp [S.all,List.foldl_append]
theorem S.pU (s:S) (xs:List Int) (x:Int):s.all (xs ++ [x])=(s.all xs).take x:=by simp [S.all,List.foldl_append]
end Go.Proofs.YthdgbgleklkaiaaDoor.Ha
namespace Go.Proofs.YthdgbgleklkaiaaDoor
open Go.RowKit Go.ChangeShapes Go.WideShapes
theorem BJ.below {k:IntKind} {w w':World} {a:Option Addr} {len cap:Nat} {zs:List Int} (h:BJ k w a len cap zs) (hb:Below w.heap.size w w'):BJ k w' a len cap zs:=by
 rcases h with h0|⟨x,h1,h2,h3,h4,h5,h6⟩
 ·exact .inl h0
 ·exact .inr ⟨x,h1,h2,h3,h4,fun i hi=>fJ hb (h5 i hi),h6⟩
theorem BJ.lt {k:IntKind} {w:World} {a:Option Addr} {len cap:Nat} {zs:List Int} (h:BJ k w a len cap zs) (x:Addr) (hx:a=some x):len=0∨x.block < w.heap.size:=by
 rcases h with ⟨rfl,_⟩|⟨y,rfl,h2,h3,h4,h5,h6⟩
 ·cases hx
 ·cases hx
  rcases Nat.eq_zero_or_pos len with h0|h0
  ·exact .inl h0
  ·exact .inr (World.block_lt_of_cell? _ _ (h5 0 (by omega)))
section
variable {H:Type} {enc:TypeId×Value→H} {P:Program} {w:World} {base:Nat} {spare:Nat→Bool} {held:Bool} {fuel:Nat} {t e:TypeId} {cs l:List Value} {x y:DataW H×List MemPlace}
theorem flds {fs:Array Field} (ht:P.underlying t=some (.struct fs)) (h:DataW.trod enc P w base spare held fuel t cs=some x) :
  cs.length=P.cellsOf t∧∃ n,∀ (i ft off sz:Nat),(fs[i]?).map (fun f=>(f.type,f.offset))=some (ft,off)→P.cellsOf ft=sz→∃ y,DataW.trod enc P w base spare held n ft ((cs.drop off).take sz)=some y:=by
 obtain ⟨xs,n,_,_,hl,hx,hf⟩:=DataW.trod_struct ht h
 refine ⟨hl,n,fun i ft off sz hi hs=>?_⟩
 cases hfi:fs[i]? with
 | none=>rw [hfi] at hi;cases hi
 | some f =>
  rw [hfi] at hi
  simp only [Option.map_some,Option.some.injEq,Prod.mk.injEq] at hi
  obtain ⟨rfl,rfl⟩:=hi
  subst hs
  have hlt:i < xs.length:=by rw [hx];exact (Array.getElem?_eq_some_iff.1 hfi).1
  exact ⟨_,(hf i f hfi).trans (List.getElem?_eq_getElem hlt)⟩
theorem EB {k:IntKind} (hu:P.underlying t=some (.int k)) (h:DataW.trod enc P w base spare held fuel t l=some y):∃ z,l=[.int k z]∧(Lit.int k z).wf=true:=by
 obtain ⟨z,h1,_,h2⟩:=DataW.trod_int hu h
 exact ⟨z,h1,h2⟩
theorem Y8 {k:IntKind} (hu:P.underlying t=some (.slice e)) (he:P.underlying e=some (.int k)) (hc:P.cellsOf e=1) (h:DataW.trod enc P w base (fun _=>true) held fuel t l=some y) :
  ∃ a len cap zs,l=[.slice a len cap]∧BJ k w a len cap zs:=by
 rcases open_ints hu he hc h with ⟨hcs,_⟩|⟨a,n,c,zs,hcs,_,hl,hm,hz,_,hcell,hwz⟩
 ·exact ⟨none,0,0,[],hcs, .inl ⟨rfl,rfl,rfl,rfl⟩⟩
 ·exact ⟨some a,n,c,zs,hcs, .inr ⟨a,rfl,hl,hm,by simpa using hz,hcell,hwz⟩⟩
theorem xX {k:IntKind} {n:Nat} (hu:P.underlying t=some (.array n e)) (he:P.underlying e=some (.int k)) (hc:P.cellsOf e=1) (hn:P.cellsOf t=n) (h:DataW.trod enc P w base spare held fuel t l=some y) :
  ∃ zs:List Int,l=zs.map (Value.int k)∧zs.length=n∧∀ z∈zs,(Lit.int k z).wf=true:=by
 obtain ⟨xs,m,_,_,hl,hx,hi⟩:=DataW.trod_array hu h
 rw [hc] at hi
 exact z8 (k:=k) n l (by rw [← hn];exact hl) (fun i h=>by
  have:=hi i h
  rw [List.getElem?_eq_getElem (show i < xs.length by omega)] at this
  obtain ⟨z,h1,_,h2⟩:=DataW.trod_int he this
  exact ⟨z,by simpa using h1,h2⟩)
end
end Go.Proofs.YthdgbgleklkaiaaDoor
