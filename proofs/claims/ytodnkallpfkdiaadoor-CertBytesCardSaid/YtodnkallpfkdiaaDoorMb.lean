/- The hash of shb in plain words: lists of numbers. Condition: as each theorem says. -/
import Derived.Test.YtodnkallpfkdiaaDoorMa
import Derived.Deep.LoopGhost
import Derived.ScopeJumps
import Derived.StillTailTactics
import Derived.BigRegion
set_option maxRecDepth 100000
set_option maxHeartbeats 16000000
set_option linter.unusedSimpArgs false
set_option linter.unusedVariables false
namespace Go.Proofs.YtodnkallpfkdiaaDoor.Hb
open Go.RowKit
def K:List Int:=[4794697086780616226,8158064640168781261,13096744586834688815,16840607885511220156,4131703408338449720,6480981068601479193,10538285296894168987,12329834152419229976,15566598209576043074,1334009975649890238,2608012711638119052,6128411473006802146,8268148722764581231,9286055187155687089,11230858885718282805,13951009754708518548,16472876342353939154,17275323862435702243,1135362057144423861,2597628984639134821,3308224258029322869,5365058923640841347,6679025012923562964,8573033837759648693,10970295158949994411,12119686244451234320,12683024718118986047,13788192230050041572,14330467153632333762,15395433587784984357,489312712824947311,1452737877330783856,2861767655752347644,3322285676063803686,5560940570517711597,5996557281743188959,7280758554555802590,8532644243296465576,9350256976987008742,10552545826968843579,11727347734174303076,12113106623233404929,14000437183269869457,14369950271660146224,15101387698204529176,15463397548674623760,17586052441742319658,1182934255886127544,1847814050463011016,2177327727835720531,2830643537854262169,3796741975233480872,4115178125766777443,5681478168544905931,6601373596472566643,7507060721942968483,8399075790359081724,8693463985226723168,9568029438360202098,10144078919501101548,10430055236837252648,11840083180663258601,13761210420658862357,14299343276471374635,14566680578165727644,15097957966210449927,16922976911328602910,17689382322260857208,500013540394364858,748580250866718886,1242879168328830382,1977374033974150939,2944078676154940804,3659926193048069267,4368137639120453308,4836135668995329356,5532061633213252278,6448918945643986474,6902733635092675308,7801388544844847127]
def H0:List Int:=[7640891576956012808,13503953896175478587,4354685564936845355,11912009170470909681,5840696475078001361,11170449401992604703,2270897969802886507,6620516959819538809]
def rot (x n m:Int):Int:=bits .or .u64 (IntKind.u64.wrap (x * m)) (x / n)
def add (x y:Int):Int:=IntKind.u64.wrap (x+y)
def s0 (x:Int):Int:=bits .xor .u64 (bits .xor .u64 (rot x 2 9223372036854775808) (rot x 256 72057594037927936)) (x / 128)
def s1 (x:Int):Int:=bits .xor .u64 (bits .xor .u64 (rot x 524288 35184372088832) (rot x 2305843009213693952 8)) (x / 64)
def e1 (x:Int):Int:=bits .xor .u64 (bits .xor .u64 (rot x 16384 1125899906842624) (rot x 262144 70368744177664)) (rot x 2199023255552 8388608)
def e0 (x:Int):Int:=bits .xor .u64 (bits .xor .u64 (rot x 268435456 68719476736) (rot x 17179869184 1073741824)) (rot x 549755813888 33554432)
def ch (e f g:Int):Int:=bits .xor .u64 (bits .and .u64 e f) (bits .and .u64 (bits .xor .u64 (if IntKind.u64.signed=true then -1 else IntKind.u64.max) e) g)
def maj (a b c:Int):Int:=bits .xor .u64 (bits .xor .u64 (bits .and .u64 a b) (bits .and .u64 a c)) (bits .and .u64 b c)
def tx (k w:Int) (v:List Int):Int:=add (add (add (add (v.getD 7 0) (e1 (v.getD 4 0))) (ch (v.getD 4 0) (v.getD 5 0) (v.getD 6 0))) k) w
def ty (v:List Int):Int:=add (e0 (v.getD 0 0)) (maj (v.getD 0 0) (v.getD 1 0) (v.getD 2 0))
def rnd (k w:Int) (v:List Int):List Int:=[add (tx k w v) (ty v),v.getD 0 0,v.getD 1 0,v.getD 2 0,add (v.getD 3 0) (tx k w v),v.getD 4 0,v.getD 5 0,v.getD 6 0]
def next (ws:List Int) (t:Nat):Int:=add (add (add (s1 (ws.getD (t - 2) 0)) (ws.getD (t - 7) 0)) (s0 (ws.getD (t - 15) 0))) (ws.getD (t - 16) 0)
/-- The first n bytes of a word, from place o on. -/
def part (b:List Int) (o:Nat):Nat→Int
 | 0=>0
 | n+1=>bits .or .u64 (IntKind.u64.wrap (part b o n * 256)) (b.getD (o+n) 0)
/-- The words behind the first i bytes. -/
def pre (b:List Int) (i:Nat):List Int:=(List.range 80).map fun j=>part b (8 * j) (min 8 (i - 8 * j))
def sched (b:List Int) (n:Nat):List Int:=(List.range n).foldl (fun ws j=>ws.set (16+j) (next ws (16+j))) (pre b 128)
def rounds (ws h:List Int) (n:Nat):List Int:=(List.range n).foldl (fun v t=>rnd (K.getD t 0) (ws.getD t 0) v) h
/-- The first n words of the state are summed up. -/
def sums (h v:List Int) (n:Nat):List Int:=h.mapIdx fun i x=>if i < n then add x (v.getD i 0) else x
def comp (h b:List Int):List Int:=sums h (rounds (sched b 64) h 80) 8
theorem pre_len (b:List Int) (i:Nat):(pre b i).length=80:=by simp [pre]
theorem pre_zero (b:List Int):pre b 0=List.replicate 80 0:=by
 unfold pre
 apply List.ext_getElem
 ·simp
 ·intro i h1 h2
  rw [List.getElem_replicate,List.getElem_map,Nat.zero_sub,Nat.min_zero]
  rfl
theorem pre_get (b:List Int) (i j:Nat) (hj:j < 80):(pre b i).getD j 0=part b (8 * j) (min 8 (i - 8 * j)):=by simp [pre,List.getD,hj]
theorem pre_succ (b:List Int) (i:Nat) (hi:i < 128):pre b (i+1)=(pre b i).set (i / 8) (bits .or .u64 (IntKind.u64.wrap ((pre b i).getD (i / 8) 0 * 256)) (b.getD i 0)):=by
 rw [pre_get _ _ _ (by omega)]
 apply List.ext_getElem
 ·simp [pre]
 ·intro j h1 h2
  simp only [pre,List.length_map,List.length_range] at h1
  rw [List.getElem_set]
  simp only [pre,List.getElem_map,List.getElem_range]
  by_cases e:i / 8=j
  ·subst e
   rw [if_pos rfl,show min 8 (i+1 - 8 * (i / 8))=i % 8+1 by omega,show min 8 (i - 8 * (i / 8))=i % 8 by omega,part,show 8 * (i / 8)+i % 8=i by omega]
  ·rw [if_neg e]
   congr 1
   omega
theorem sched_succ (b:List Int) (n:Nat):sched b (n+1)=(sched b n).set (16+n) (next (sched b n) (16+n)):=by simp [sched,List.range_succ,List.foldl_append]
theorem sched_len (b:List Int) (n:Nat):(sched b n).length=80:=by
 induction n with
 | zero=>simp [sched,pre]
 | succ n ih=>rw [sched_succ,List.length_set,ih]
theorem rounds_succ (ws h:List Int) (n:Nat):rounds ws h (n+1)=rnd (K.getD n 0) (ws.getD n 0) (rounds ws h n):=by simp [rounds,List.range_succ,List.foldl_append]
theorem rounds_len (ws h:List Int) (hh:h.length=8) (n:Nat):(rounds ws h n).length=8:=by
 cases n with
 | zero=>simpa [rounds] using hh
 | succ n=>rw [rounds_succ];rfl
theorem sums_zero (h v:List Int):sums h v 0=h:=by
 unfold sums
 apply List.ext_getElem <;> simp
theorem sums_len (h v:List Int) (n:Nat):(sums h v n).length=h.length:=by simp [sums]
theorem sums_get (h v:List Int) (n i:Nat) (hi:i < h.length) (hn:n≤i):(sums h v n).getD i 0=h.getD i 0:=by
 simp [sums,List.getD,hi]
 omega
theorem sums_succ (h v:List Int) (n:Nat) (_hn:n < h.length):sums h v (n+1)=(sums h v n).set n (add (h.getD n 0) (v.getD n 0)):=by
 apply List.ext_getElem
 ·simp [sums]
 ·intro i h1 h2
  simp only [sums,List.length_mapIdx] at h1
  rw [List.getElem_set]
  simp only [sums,List.getElem_mapIdx]
  by_cases e:n=i
  ·subst e
   rw [if_pos (by omega),if_pos rfl]
   simp [List.getD,h1]
  ·rw [if_neg e]
   by_cases e2:i < n
   ·rw [if_pos (by omega),if_pos e2]
   ·rw [if_neg (by omega),if_neg e2]
theorem comp_len (h b:List Int):(comp h b).length=h.length:=sums_len _ _ _
theorem K_len:K.length=80:=by decide
/-- What is under way: the state, the bytes that wait, how many they are. -/
structure S where
 h:List Int
 b:List Int
 n:Nat
def S.take (s:S) (x:Int):S:=if s.n+1=128 then ⟨comp s.h (s.b.set s.n x),s.b.set s.n x,0⟩ else ⟨s.h,s.b.set s.n x,s.n+1⟩
def S.all (s:S) (xs:List Int):S:=xs.foldl S.take s
def S.new:S:=⟨H0,List.replicate 128 0,0⟩
/-- The bytes behind a message of n bytes: 128, noughts, its length in bits. -/
def tail (n:Nat):List Int:=128 :: List.replicate ((2 * 128 - 16 - 1 - n % 128) % 128) 0 ++ List.replicate (16 - 8) 0 ++ (List.range 8).map fun i=>((8 * n / 2 ^ (8 * (7 - i)) % 256:Nat):Int)
def digest (h:List Int):List Int:=(List.range 64).map fun i=>h.getD (i / 8) 0 / 2 ^ (8 * (7 - i % 8)) % 256
def hash (m:List Int):List Int:=digest ((S.new.all (m ++ tail m.length)).h)
theorem hash_len (m:List Int):(hash m).length=64:=by simp [hash,digest]
structure S.Ok (s:S):Prop where
 h:s.h.length=8
 b:s.b.length=128
 n:s.n < 128
 by0:∀ x∈s.b,0≤x∧x≤255
theorem S.Ok.take {s:S} (h:s.Ok) (x:Int) (hx:0≤x∧x≤255):(s.take x).Ok:=by
 have hn:=h.n
 have hb:∀ y∈s.b.set s.n x,0≤y∧y≤255:=by
  intro y hy
  rcases List.mem_or_eq_of_mem_set hy with h1|rfl
  ·exact h.by0 y h1
  ·exact hx
 unfold S.take
 split
 ·exact ⟨(comp_len _ _).trans h.h,by rw [List.length_set];exact h.b,by show 0 < _;omega,hb⟩
 ·exact ⟨h.h,by rw [List.length_set];exact h.b,by show s.n+1 < _;omega,hb⟩
theorem S.Ok.all {s:S} (h:s.Ok):∀ (xs:List Int),(∀ x∈xs,0≤x∧x≤255)→(s.all xs).Ok:=by
 intro xs
 induction xs generalizing s with
 | nil=>intro _;exact h
 | cons x xs ih=>intro hx;exact ih (h.take x (hx x (by simp))) fun y hy=>hx y (by simp [hy])
theorem S.Ok.new:S.new.Ok:=by
 refine ⟨rfl,by simp [S.new],by simp [S.new],?_⟩
 intro x hx
 have:=List.eq_of_mem_replicate hx
 omega
theorem S.take_n (s:S) (h:s.n < 128) (x:Int):(s.take x).n=(s.n+1) % 128:=by
 unfold S.take
 split
 ·rename_i e;rw [e]
 ·show s.n+1=_;omega
theorem S.all_n:∀ (xs:List Int) (s:S),s.n < 128→(s.all xs).n=(s.n+xs.length) % 128
 | [],s,h=>by show s.n=_;simp;omega
 | x :: xs,s,h=>by
  have h1:(s.take x).n < 128:=by rw [S.take_n s h];omega
  have:=S.all_n xs (s.take x) h1
  show ((s.take x).all xs).n=_
  rw [this,S.take_n s h,List.length_cons]
  omega
theorem S.all_append (s:S) (xs ys:List Int):s.all (xs ++ ys)=(s.all xs).all ys:=by simp [S.all,List.foldl_append]
theorem S.all_snoc (s:S) (xs:List Int) (x:Int):s.all (xs ++ [x])=(s.all xs).take x:=by simp [S.all,List.foldl_append]
theorem abc:(hash [97,98,99]).take 8=[221,175,53,161,147,97,122,186]:=by decide +kernel
end Go.Proofs.YtodnkallpfkdiaaDoor.Hb
namespace Go.Proofs.YtodnkallpfkdiaaDoor.Hb
open Go.RowKit
theorem S.take_len (s:S) (x:Int):(s.take x).h.length=s.h.length∧(s.take x).b.length=s.b.length:=by
 unfold S.take
 split
 ·exact ⟨comp_len _ _,by simp⟩
 ·exact ⟨rfl,by simp⟩
theorem S.all_len:∀ (xs:List Int) (s:S),(s.all xs).h.length=s.h.length∧(s.all xs).b.length=s.b.length
 | [],_=>⟨rfl,rfl⟩
 | x :: xs,s=>by
  have:=S.all_len xs (s.take x)
  have h:=S.take_len s x
  exact ⟨this.1.trans h.1,this.2.trans h.2⟩
theorem set_mid (a b:List Int) (i:Nat) (x:Int) (ha:a.length=i) (hb:i < b.length):(a ++ b.drop i).set i x=a ++ [x] ++ b.drop (i+1):=by
 rw [List.set_append_right _ _ (by omega),ha,Nat.sub_self,List.drop_eq_getElem_cons hb,List.set_cons_zero]
 simp
theorem S.all_pre (s:S) (bl:List Int) (hn:s.n=0) (hb:s.b.length=128) (hl:bl.length=128):∀ i,i < 128→s.all (bl.take i)=⟨s.h,bl.take i ++ s.b.drop i,i⟩:=by
 intro i
 induction i with
 | zero =>
  intro _
  obtain ⟨h,b,n⟩:=s
  simp only at hn
  subst hn
  simp [S.all]
 | succ i ih =>
  intro hi
  have e:bl.take (i+1)=bl.take i ++ [bl.getD i 0]:=by
   rw [List.take_succ_eq_append_getElem (by omega)]
   simp [List.getD,show i < bl.length by omega]
  rw [e,S.all_snoc,ih (by omega),S.take,if_neg (by show ¬ i+1=_;omega)]
  simp only
  rw [set_mid _ _ _ _ (by simp;omega) (by omega)]
theorem S.all_block (s:S) (bl:List Int) (hn:s.n=0) (hb:s.b.length=128) (hl:bl.length=128):s.all bl=⟨comp s.h bl,bl,0⟩:=by
 have e:bl=bl.take (128 - 1) ++ [bl.getD (128 - 1) 0]:=by
  have:bl.take (128 - 1+1)=bl.take (128 - 1) ++ [bl.getD (128 - 1) 0]:=by
   rw [List.take_succ_eq_append_getElem (by omega)]
   simp [List.getD,hl]
  rw [← this,List.take_of_length_le (by omega)]
 have hd:(bl.take (128 - 1) ++ s.b.drop (128 - 1)).set (128 - 1) (bl.getD (128 - 1) 0)=bl:=by
  rw [set_mid _ _ _ _ (by simp;omega) (by omega),List.drop_eq_nil_of_le (by omega),List.append_nil,← e]
 have h1:s.all bl=(s.all (bl.take (128 - 1))).take (bl.getD (128 - 1) 0):=by rw [← S.all_snoc,← e]
 rw [h1,S.all_pre s bl hn hb hl _ (by omega),S.take,if_pos rfl]
 simp only [hd]
def blkOf (pm:List Int) (q:Nat):List Int:=(pm.drop (128 * q)).take 128
def hsOf (pm:List Int) (q:Nat):List Int:=(S.new.all (pm.take (128 * q))).h
theorem hs_len (pm:List Int) (q:Nat):(hsOf pm q).length=8:=(S.all_len _ _).1
theorem hs_zero (pm:List Int):hsOf pm 0=H0:=by simp [hsOf,S.all,S.new]
theorem hs_succ (pm:List Int) (q:Nat) (h:128 * (q+1)≤pm.length):hsOf pm (q+1)=comp (hsOf pm q) (blkOf pm q):=by
 unfold hsOf blkOf
 have e:pm.take (128 * (q+1))=pm.take (128 * q) ++ (pm.drop (128 * q)).take 128:=by rw [Nat.mul_succ,List.take_add]
 rw [e,S.all_append,S.all_block _ _ ?_ ?_ ?_]
 ·rw [S.all_n _ _ S.Ok.new.n,List.length_take,Nat.min_eq_left (by omega)]
  show (0+128 * q) % 128=0
  omega
 ·rw [(S.all_len _ _).2];simp [S.new]
 ·rw [List.length_take,List.length_drop];omega
theorem hs_end (pm:List Int) (q:Nat) (h:pm.length=128 * q):(S.new.all pm).h=hsOf pm q:=by
 unfold hsOf
 rw [List.take_of_length_le (by omega)]
theorem blk_get (pm:List Int) (q j:Nat) (hj:j < 128):(blkOf pm q).getD j 0=pm.getD (128 * q+j) 0:=by
 unfold blkOf
 simp only [List.getD,List.getElem?_take,hj,if_true,List.getElem?_drop]
theorem tail_len (n:Nat):∃ q,n+(tail n).length=128 * q:=by
 refine ⟨(n+(tail n).length) / 128,?_⟩
 have:(tail n).length=1+(2 * 128 - 16 - 1 - n % 128) % 128+16:=by simp [tail];omega
 rw [this]
 omega
theorem tail_bytes (n:Nat):∀ x∈tail n,0≤x∧x≤255:=by
 intro x hx
 simp only [tail,List.mem_append,List.mem_cons,List.mem_replicate,List.mem_map,List.mem_range] at hx
 rcases hx with ((rfl|⟨_,rfl⟩)|⟨_,rfl⟩)|⟨i,_,rfl⟩
 all_goals omega
end Go.Proofs.YtodnkallpfkdiaaDoor.Hb
namespace Go.Proofs.YtodnkallpfkdiaaDoor.Hb
open Go.RowKit
def stC (h b:List Int) (n l:Int):Array Value:=(h.map (Value.int .u64) ++ (K.map (Value.int .u64) ++ (b.map (Value.int .u8) ++ [Value.int .i64 n,Value.int .u64 l]))).toArray
/-- Block p is a state. -/
structure IsSt (w:World) (p:Nat) (h b:List Int) (n l:Int):Prop where
 blk:w.heap[p]? = some (.cells (stC h b n l) 199 (0,0))
 hl:h.length=8
 bl:b.length=128
theorem IsSt.fr {w:World} {p:Nat} {h b:List Int} {n l:Int} (s:IsSt w p h b n l) (o:Nat):w.frozen? ⟨p,o,none⟩=false:=free_blk s.blk o
theorem IsSt.kept {T:Nat→Prop} {w w':World} {p:Nat} {h b:List Int} {n l:Int} (s:IsSt w p h b n l) (k:Kept T w w') (hp:¬ T p):IsSt w' p h b n l:=⟨k.blk s.blk hp,s.hl,s.bl⟩
theorem IsSt.below {w w':World} {p:Nat} {h b:List Int} {n l:Int} (s:IsSt w p h b n l) (k:Below w.heap.size w w'):IsSt w' p h b n l:=⟨Below.blk k s.blk (blk_lt s.blk),s.hl,s.bl⟩
theorem IsSt.drewN {w:World} {p:Nat} {h b:List Int} {n l:Int} (s:IsSt w p h b n l) (k:Nat):IsSt (w.drewN k) p h b n l:=⟨s.blk,s.hl,s.bl⟩
theorem IsSt.drew {w:World} {p:Nat} {h b:List Int} {n l:Int} (s:IsSt w p h b n l):IsSt w.drew p h b n l:=⟨s.blk,s.hl,s.bl⟩
theorem IsSt.alloc {w:World} {p:Nat} {h b:List Int} {n l:Int} (s:IsSt w p h b n l) (o:Obj):IsSt (w.alloc o) p h b n l:=⟨blk_alloc s.blk o,s.hl,s.bl⟩
theorem mapget (k:IntKind) (xs:List Int) (i:Nat) (hi:i < xs.length):(xs.map (Value.int k))[i]? = some (.int k (xs.getD i 0)):=by simp [List.getD,hi]
theorem stC_h {h b:List Int} (n l:Int) (hl:h.length=8) (i:Nat) (hi:i < 8):(stC h b n l)[i]? = some (.int .u64 (h.getD i 0)):=by
 unfold stC
 rw [List.getElem?_toArray,List.getElem?_append_left (by simp;omega),mapget _ _ _ (by omega)]
theorem stC_k {h b:List Int} (n l:Int) (hl:h.length=8) (i:Nat) (hi:i < 80):(stC h b n l)[8+i]? = some (.int .u64 (K.getD i 0)):=by
 unfold stC
 have kl:=K_len
 rw [List.getElem?_toArray,List.getElem?_append_right (by simp;omega),List.getElem?_append_left (by simp;omega),List.length_map,hl,Nat.add_sub_cancel_left,mapget _ _ _ (by omega)]
theorem stC_b {h b:List Int} (n l:Int) (hl:h.length=8) (bl:b.length=128) (i:Nat) (hi:i < 128):(stC h b n l)[88+i]? = some (.int .u8 (b.getD i 0)):=by
 unfold stC
 have kl:=K_len
 rw [List.getElem?_toArray,List.getElem?_append_right (by simp;omega),List.getElem?_append_right (by simp;omega),List.getElem?_append_left (by simp;omega),List.length_map,List.length_map,hl,kl,show 88+i - 8 - 80=i by omega,mapget _ _ _ (by omega)]
theorem stC_n {h b:List Int} (n l:Int) (hl:h.length=8) (bl:b.length=128):(stC h b n l)[216]? = some (.int .i64 n)∧(stC h b n l)[217]? = some (.int .u64 l):=by
 unfold stC
 have kl:=K_len
 constructor <;> rw [List.getElem?_toArray,List.getElem?_append_right (by simp;omega),List.getElem?_append_right (by simp;omega),List.getElem?_append_right (by simp;omega)] <;> simp [hl,kl,bl]
theorem stC_size {h b:List Int} (n l:Int) (hl:h.length=8) (bl:b.length=128):(stC h b n l).size=218:=by
 have kl:=K_len
 simp [stC,hl,kl,bl]
theorem stC_toList (h b:List Int) (n l:Int):(stC h b n l).toList=h.map (Value.int .u64) ++ (K.map (Value.int .u64) ++ (b.map (Value.int .u8) ++ [Value.int .i64 n,Value.int .u64 l])):=rfl
theorem setA (cs:List Value) (i:Nat) (v:Value):cs.toArray.setIfInBounds i v=(cs.set i v).toArray:=by simp
theorem stC_seth {h b:List Int} (n l:Int) (hl:h.length=8) (i:Nat) (hi:i < 8) (x:Int):(stC h b n l).setIfInBounds i (.int .u64 x)=stC (h.set i x) b n l:=by
 unfold stC
 rw [setA,List.set_append_left _ _ (by simp;omega),List.map_set]
theorem stC_setb {h b:List Int} (n l:Int) (hl:h.length=8) (bl:b.length=128) (i:Nat) (hi:i < 128) (x:Int):(stC h b n l).setIfInBounds (88+i) (.int .u8 x)=stC h (b.set i x) n l:=by
 unfold stC
 have kl:=K_len
 rw [setA,List.set_append_right _ _ (by simp;omega),List.set_append_right _ _ (by simp;omega),List.set_append_left _ _ (by simp;omega),List.map_set,List.length_map,List.length_map,hl,kl,show 88+i - 8 - 80=i by omega]
theorem stC_setn {h b:List Int} (n l:Int) (hl:h.length=8) (bl:b.length=128) (x:Int):(stC h b n l).setIfInBounds 216 (.int .i64 x)=stC h b x l∧(stC h b n l).setIfInBounds 217 (.int .u64 x)=stC h b n x:=by
 unfold stC
 have kl:=K_len
 constructor <;> rw [setA,List.set_append_right _ _ (by simp;omega),List.set_append_right _ _ (by simp;omega),List.set_append_right _ _ (by simp;omega)] <;> simp [hl,kl,bl]
theorem IsSt.at_h {w:World} {p:Nat} {h b:List Int} {n l:Int} (s:IsSt w p h b n l) (i:Nat) (hi:i < 8):w.cell? ⟨p,i,none⟩=some (.int .u64 (h.getD i 0)):=by rw [cell_blk s.blk,stC_h n l s.hl i hi]
theorem IsSt.at_k {w:World} {p:Nat} {h b:List Int} {n l:Int} (s:IsSt w p h b n l) (i:Nat) (hi:i < 80):w.cell? ⟨p,8+i,none⟩=some (.int .u64 (K.getD i 0)):=by rw [cell_blk s.blk,stC_k n l s.hl i hi]
theorem IsSt.at_b {w:World} {p:Nat} {h b:List Int} {n l:Int} (s:IsSt w p h b n l) (i:Nat) (hi:i < 128):w.cell? ⟨p,88+i,none⟩=some (.int .u8 (b.getD i 0)):=by rw [cell_blk s.blk,stC_b n l s.hl s.bl i hi]
theorem IsSt.at_n {w:World} {p:Nat} {h b:List Int} {n l:Int} (s:IsSt w p h b n l):w.cell? ⟨p,216,none⟩=some (.int .i64 n):=by rw [cell_blk s.blk,(stC_n n l s.hl s.bl).1]
theorem IsSt.at_l {w:World} {p:Nat} {h b:List Int} {n l:Int} (s:IsSt w p h b n l):w.cell? ⟨p,217,none⟩=some (.int .u64 l):=by rw [cell_blk s.blk,(stC_n n l s.hl s.bl).2]
theorem IsSt.set_h {w:World} {p:Nat} {h b:List Int} {n l:Int} (s:IsSt w p h b n l) (i:Nat) (hi:i < 8) (x:Int):IsSt (w.setCell ⟨p,i,none⟩ (.int .u64 x)) p (h.set i x) b n l :=
 ⟨by rw [blk_setCell s.blk,stC_seth n l s.hl i hi],by rw [List.length_set];exact s.hl,s.bl⟩
theorem IsSt.set_b {w:World} {p:Nat} {h b:List Int} {n l:Int} (s:IsSt w p h b n l) (i:Nat) (hi:i < 128) (x:Int):IsSt (w.setCell ⟨p,88+i,none⟩ (.int .u8 x)) p h (b.set i x) n l :=
 ⟨by rw [blk_setCell s.blk,stC_setb n l s.hl s.bl i hi],s.hl,by rw [List.length_set];exact s.bl⟩
theorem IsSt.set_n {w:World} {p:Nat} {h b:List Int} {n l:Int} (s:IsSt w p h b n l) (x:Int):IsSt (w.setCell ⟨p,216,none⟩ (.int .i64 x)) p h b x l :=
 ⟨by rw [blk_setCell s.blk,(stC_setn n l s.hl s.bl x).1],s.hl,s.bl⟩
theorem IsSt.set_l {w:World} {p:Nat} {h b:List Int} {n l:Int} (s:IsSt w p h b n l) (x:Int):IsSt (w.setCell ⟨p,217,none⟩ (.int .u64 x)) p h b n x :=
 ⟨by rw [blk_setCell s.blk,(stC_setn n l s.hl s.bl x).2],s.hl,s.bl⟩
theorem rl_1 (x:Int) (w:World):Calls Tryd.prog 173 #[.int .u64 x, .int .i64 (-1)] w fun e w'=>e = .returned (.int .u64 (rot x 2 9223372036854775808))∧w=w':=by
 have hb:bits .and .u64 (IntKind.u64.wrap (-1)) 63=63:=by decide +kernel
 go_enter Tryd.func173, Tryd.ntmps173
 go_wp2
 go_ret
 exact ⟨rfl,rfl⟩
theorem rl_8 (x:Int) (w:World):Calls Tryd.prog 173 #[.int .u64 x, .int .i64 (-8)] w fun e w'=>e = .returned (.int .u64 (rot x 256 72057594037927936))∧w=w':=by
 have hb:bits .and .u64 (IntKind.u64.wrap (-8)) 63=56:=by decide +kernel
 go_enter Tryd.func173, Tryd.ntmps173
 go_wp2
 go_ret
 exact ⟨rfl,rfl⟩
theorem rl_14 (x:Int) (w:World):Calls Tryd.prog 173 #[.int .u64 x, .int .i64 (-14)] w fun e w'=>e = .returned (.int .u64 (rot x 16384 1125899906842624))∧w=w':=by
 have hb:bits .and .u64 (IntKind.u64.wrap (-14)) 63=50:=by decide +kernel
 go_enter Tryd.func173, Tryd.ntmps173
 go_wp2
 go_ret
 exact ⟨rfl,rfl⟩
theorem rl_18 (x:Int) (w:World):Calls Tryd.prog 173 #[.int .u64 x, .int .i64 (-18)] w fun e w'=>e = .returned (.int .u64 (rot x 262144 70368744177664))∧w=w':=by
 have hb:bits .and .u64 (IntKind.u64.wrap (-18)) 63=46:=by decide +kernel
 go_enter Tryd.func173, Tryd.ntmps173
 go_wp2
 go_ret
 exact ⟨rfl,rfl⟩
theorem rl_19 (x:Int) (w:World):Calls Tryd.prog 173 #[.int .u64 x, .int .i64 (-19)] w fun e w'=>e = .returned (.int .u64 (rot x 524288 35184372088832))∧w=w':=by
 have hb:bits .and .u64 (IntKind.u64.wrap (-19)) 63=45:=by decide +kernel
 go_enter Tryd.func173, Tryd.ntmps173
 go_wp2
 go_ret
 exact ⟨rfl,rfl⟩
theorem rl_28 (x:Int) (w:World):Calls Tryd.prog 173 #[.int .u64 x, .int .i64 (-28)] w fun e w'=>e = .returned (.int .u64 (rot x 268435456 68719476736))∧w=w':=by
 have hb:bits .and .u64 (IntKind.u64.wrap (-28)) 63=36:=by decide +kernel
 go_enter Tryd.func173, Tryd.ntmps173
 go_wp2
 go_ret
 exact ⟨rfl,rfl⟩
theorem rl_34 (x:Int) (w:World):Calls Tryd.prog 173 #[.int .u64 x, .int .i64 (-34)] w fun e w'=>e = .returned (.int .u64 (rot x 17179869184 1073741824))∧w=w':=by
 have hb:bits .and .u64 (IntKind.u64.wrap (-34)) 63=30:=by decide +kernel
 go_enter Tryd.func173, Tryd.ntmps173
 go_wp2
 go_ret
 exact ⟨rfl,rfl⟩
theorem rl_39 (x:Int) (w:World):Calls Tryd.prog 173 #[.int .u64 x, .int .i64 (-39)] w fun e w'=>e = .returned (.int .u64 (rot x 549755813888 33554432))∧w=w':=by
 have hb:bits .and .u64 (IntKind.u64.wrap (-39)) 63=25:=by decide +kernel
 go_enter Tryd.func173, Tryd.ntmps173
 go_wp2
 go_ret
 exact ⟨rfl,rfl⟩
theorem rl_41 (x:Int) (w:World):Calls Tryd.prog 173 #[.int .u64 x, .int .i64 (-41)] w fun e w'=>e = .returned (.int .u64 (rot x 2199023255552 8388608))∧w=w':=by
 have hb:bits .and .u64 (IntKind.u64.wrap (-41)) 63=23:=by decide +kernel
 go_enter Tryd.func173, Tryd.ntmps173
 go_wp2
 go_ret
 exact ⟨rfl,rfl⟩
theorem rl_61 (x:Int) (w:World):Calls Tryd.prog 173 #[.int .u64 x, .int .i64 (-61)] w fun e w'=>e = .returned (.int .u64 (rot x 2305843009213693952 8))∧w=w':=by
 have hb:bits .and .u64 (IntKind.u64.wrap (-61)) 63=3:=by decide +kernel
 go_enter Tryd.func173, Tryd.ntmps173
 go_wp2
 go_ret
 exact ⟨rfl,rfl⟩
theorem zeroR (w:World):(zeroValue 177).run Tryd.prog w = .ok (.agg (arr .u64 (List.replicate 80 0))) w:=by kernel_rfl
theorem sizeR:(Tryd.prog.info? 177).map (·.size)=some 80:=by kernel_rfl
theorem size8:(Tryd.prog.info? 172).map (·.size)=some 8:=by kernel_rfl
theorem sizeB:(Tryd.prog.info? 197).map (·.size)=some 128:=by kernel_rfl
theorem size_u8 (w:World):(sizeOf 5).run Tryd.prog w = .ok 1 w:=by kernel_rfl
def KV:Array (Nat×Value):=((K.map (Value.int .u64)).zipIdx.map fun x=>(x.2,x.1)).toArray
theorem build_K (w:World):(Instr.build 177 KV).run Tryd.prog w = .ok (.agg (arr .u64 K)) w:=by kernel_rfl
theorem build_st (w:World):(Instr.build 199 #[(0, .agg (arr .u64 H0)),(1, .agg (arr .u64 K))]).run Tryd.prog w = .ok (.agg (stC H0 (List.replicate 128 0) 0 0)) w:=by kernel_rfl
theorem consts_any (w:World):Calls Tryd.prog 166 #[] w fun e w'=>e = .returned (.agg (arr .u64 K))∧Below w.heap.size w w':=by
 have z1:(Tryd.prog.info? 177).map (·.size)=some (arr .u64 K).size:=by rw [arr_size,K_len];exact sizeR
 have s1:(arr .u64 K).size=(arr .u64 (List.replicate 80 0)).size:=by rw [arr_size,arr_size,K_len,List.length_replicate]
 have b1:(w.alloc (.cells (arr .u64 (List.replicate 80 0)) 177)).heap[w.heap.size]? = some (.cells (arr .u64 (List.replicate 80 0)) 177 (0,0)):=blk_new w _
 have Z1:=Lib.hid z1
 have S1:=Lib.hid s1
 have B1:=Lib.hid b1
 clear z1 s1 b1
 go_enter Tryd.func166, Tryd.ntmps166
 go_wp2_with (first|((with_reducible refine aS 0 ?_);refine wpList_alloc_row rfl 177 rfl _ (zeroR _) ?_)|((with_reducible refine aS 1 ?_);refine wpList_build rfl 177 _ rfl KV (by kernel_rfl) _ (build_K _) ?_)|((with_reducible show wpList _ _ _ (Oper.mk none _ _ _ _ _ :: _) _ _);refine wpList_store_whole rfl 177 _ _ rfl w.heap.size _ _ 177 B1.out rfl rfl S1.out Z1.out (all_arr _ _) ?_;intro w2 hb2 hk2 hz2;have HB2:=Lib.hid hb2;have HK2:=Lib.hid hk2;clear hb2 hk2 hz2))
 (try simp only [Exit.inBlock,Exit.then])
 refine bodyPost_ret (results_cell_row rfl _ _ w.heap.size 177 _ (0,0) _ rfl HB2.out Tryd.underlying177 rfl Z1.out) rfl ?_
 exact ⟨rfl,(((Kept.refl (fun i=>i=w.heap.size) w).alloc _).trans HK2.out).toBelow (Nat.le_refl _) (by rintro i rfl;exact Nat.le_refl _)⟩
theorem begin_any (w:World):Calls Tryd.prog 157 #[] w fun e w'=>∃ p,e = .returned (.pointer (some ⟨p,0,none⟩))∧IsSt w' p H0 (List.replicate 128 0) 0 0∧w.heap.size≤p∧Below w.heap.size w w':=by
 go_enter Tryd.func157, Tryd.ntmps157
 go_wp2_with (first|(go_at_call 166; refine (consts_any _).mono ?_;rintro e w1 ⟨rfl,hb1⟩)|((with_reducible refine aS 3 ?_);refine wpList_build rfl 199 _ rfl #[(0, .agg (arr .u64 H0)),(1, .agg (arr .u64 K))] rfl _ (build_st _) ?_))
 go_ret
 refine ⟨w1.heap.size,rfl,⟨blk_new _ _,rfl,by simp⟩,hb1.size,hb1.alloc hb1.size _⟩
end Go.Proofs.YtodnkallpfkdiaaDoor.Hb
namespace Go.Proofs.YtodnkallpfkdiaaDoor.Hb
open Go.RowKit
theorem arr_set (k:IntKind) (xs:List Int) (i:Nat) (v:Int):(arr k xs).setIfInBounds i (.int k v)=arr k (xs.set i v):=by
 unfold arr
 rw [setA,List.map_set]
theorem stC_partb {h b:List Int} (n l:Int) (hl:h.length=8):((stC h b n l).toList.drop 88).take b.length=b.map (Value.int .u8):=by
 have kl:=K_len
 rw [stC_toList,← List.append_assoc,List.drop_append_of_le_length (by simp [hl,kl]),List.drop_eq_nil_of_le (by simp [hl,kl])]
 simp
theorem stC_parth (h b:List Int) (n l:Int):((stC h b n l).toList.drop 0).take h.length=h.map (Value.int .u64):=by
 rw [stC_toList]
 simp
theorem blk_arr {w:World} {g:Nat} {k:IntKind} {xs:List Int} {t:TypeId} {fr:Nat×Nat} (h:w.heap[g]? = some (.cells (arr k xs) t fr)) (i:Nat) (hi:i < xs.length):w.cell? ⟨g,i,none⟩=some (.int k (xs.getD i 0)):=by
 rw [cell_blk h,arr_get _ _ _ hi]
theorem blk_arr_set {w:World} {g:Nat} {k:IntKind} {xs:List Int} {t:TypeId} (h:w.heap[g]? = some (.cells (arr k xs) t (0,0))) (i:Nat) (v:Int):(w.setCell ⟨g,i,none⟩ (.int k v)).heap[g]? = some (.cells (arr k (xs.set i v)) t (0,0)):=by
 rw [blk_setCell h,arr_set]
theorem byte_at {b:List Int} (hb:∀ x∈b,0≤x∧x≤255) (j:Nat):0≤b.getD j 0∧b.getD j 0≤255:=by
 simp only [List.getD]
 cases e:b[j]? with
 | none=>simp
 | some y=>simpa using hb y (List.mem_of_getElem? e)
theorem flat4 (a b c d:Int):IntKind.u64.wrap (IntKind.u64.wrap (IntKind.u64.wrap (a+b)+c)+d)=add (add (add a b) c) d:=rfl
theorem sched_any (p:Nat) (h b:List Int) (n l:Int) (w:World) (s:IsSt w p h b n l) (hb:∀ x∈b,0≤x∧x≤255) :
  Calls Tryd.prog 172 #[.pointer (some ⟨p,0,none⟩)] w fun e w'=>e = .returned (.agg (arr .u64 (sched b 64)))∧Below w.heap.size w w':=by
 have hs2:=((s.alloc (.cells (arr .u64 (List.replicate 80 0)) 177)).alloc (.cells (arr .u64 (List.replicate 80 0)) 177)).blk
 have hp2:=stC_partb (b:=b) n l s.hl
 have hz2:(Tryd.prog.info? 197).map (·.size)=some b.length:=by rw [s.bl];exact sizeB
 have hst:((w.alloc (.cells (arr .u64 (List.replicate 80 0)) 177)).alloc (.cells (arr .u64 (List.replicate 80 0)) 177)).heap[w.heap.size+1]? = some (.cells (arr .u64 (pre b 0)) 177 (0,0)) ∧
   ((w.alloc (.cells (arr .u64 (List.replicate 80 0)) 177)).alloc (.cells (arr .u64 (List.replicate 80 0)) 177)).heap[w.heap.size]? = some (.cells (arr .u64 (List.replicate 80 0)) 177 (0,0)) ∧
   Below w.heap.size w ((w.alloc (.cells (arr .u64 (List.replicate 80 0)) 177)).alloc (.cells (arr .u64 (List.replicate 80 0)) 177)):=by
  refine ⟨?_,blk_alloc (blk_new w _) _,((Below.refl _ w).alloc (Nat.le_refl _) _).alloc (by simp) _⟩
  have:=blk_new (w.alloc (.cells (arr .u64 (List.replicate 80 0)) 177)) (.cells (arr .u64 (List.replicate 80 0)) 177)
  rw [show (w.alloc (.cells (arr .u64 (List.replicate 80 0)) 177)).heap.size=w.heap.size+1 by simp] at this
  rw [pre_zero]
  exact this
 have hix:=fun (j:Nat) (hj:j < 128) (w:World)=>run_index_arr (P := Tryd.prog) w 197 5 128 .u8 .u8 .i64 Tryd.underlying197 Tryd.underlying5 size_u8 b s.bl j hj
 have HS2:=Lib.hid hs2
 have HP2:=Lib.hid hp2
 have HZ2:=Lib.hid hz2
 have HST:=Lib.hid hst
 have HIX:=Lib.hid hix
 clear hs2 hp2 hz2 hst hix s
 go_enter Tryd.func172, Tryd.ntmps172
 go_wp2_with (first|((with_reducible refine aS 2 ?_);refine wpList_alloc_row rfl 177 rfl _ (zeroR _) ?_)|((with_reducible refine aS 3 ?_);refine wpList_alloc_row rfl 177 rfl _ (zeroR _) ?_)|((with_reducible refine aS 14 ?_);refine wpList_load_part rfl 197 _ rfl p 88 _ 199 (0,0) _ HS2.out rfl .u8 b HP2.out Tryd.underlying197 rfl HZ2.out ?_))
 go_loopw [15] (fun i wr=>∃ j:Nat,j≤128∧i = .int .i64 j∧wr.heap[w.heap.size+1]? = some (.cells (arr .u64 (pre b j)) 177 (0,0))∧wr.heap[w.heap.size]? = some (.cells (arr .u64 (List.replicate 80 0)) 177 (0,0))∧Below w.heap.size w wr) (fun i _=>128 - (intOf i).toNat)
 case atStart=>exact ⟨0,Nat.zero_le _,rfl,HST.out.1,HST.out.2.1,HST.out.2.2⟩
 case round =>
  obtain ⟨j,hj,rfl,g1,g2,hbw⟩:=hrel
  by_cases hlt:j < 128
  ·have x0:=HIX.out j hlt
   have x1:=blk_arr g1 (j / 8) (by rw [pre_len];omega)
   have x2:=free_blk g1 (j / 8)
   obtain ⟨b0,b1⟩:=byte_at hb j
   have G1:=Lib.hid (blk_arr_set g1 (j / 8) (bits .or .u64 (IntKind.u64.wrap ((pre b j).getD (j / 8) 0 * 256)) (b.getD j 0)))
   rw [← pre_succ b j hlt] at G1
   have G2:=Lib.hid g2
   have HBW:=Lib.hid hbw
   clear g1 g2 hbw
   generalize (pre b j).getD (j / 8) 0=y at x1 G1
   generalize b.getD j 0=x at x0 b0 b1 G1
   go_wp2
   go_roundw
   case rel=>exact ⟨j+1,by omega,by go_num,G1.out,blk_setCell_ne G2.out _ (by omega),HBW.out.setCell (p:=⟨w.heap.size+1,j / 8,none⟩) (by simp) _⟩
   case measure=>simp [intOf];omega
  ·have ej:j=128:=by omega
   obtain ⟨wo,rfl⟩:∃ wo:World,wo=wr:=⟨_,rfl⟩
   rw [ej] at g1
   clear ej
   have G1:=Lib.hid g1
   have G2:=Lib.hid g2
   have HBW:=Lib.hid hbw
   clear g1 g2 hbw
   go_wp2_with fail
   go_loopw [6] (fun i wr=>∃ t:Nat,16≤t∧t≤80∧i = .int .i64 t∧wr.heap[w.heap.size+1]? = some (.cells (arr .u64 (sched b (t - 16))) 177 (0,0))∧wr.heap[w.heap.size]? = some (.cells (arr .u64 (List.replicate 80 0)) 177 (0,0))∧Below w.heap.size w wr) (fun i _=>80 - (intOf i).toNat)
   case atStart=>exact ⟨16,by omega,by omega,rfl,G1.out,G2.out,HBW.out⟩
   case round =>
    obtain ⟨t,h16,ht,rfl,g1,g2,hbw⟩:=hrel
    by_cases hlt:t < 80
    ·have hsl:=sched_len b (t - 16)
     have x2:=blk_arr g1 (t - 2) (by omega)
     have x7:=blk_arr g1 (t - 7) (by omega)
     have x15:=blk_arr g1 (t - 15) (by omega)
     have x16:=blk_arr g1 (t - 16) (by omega)
     have xt:=blk_arr g1 t (by omega)
     have xf:=free_blk g1 t
     have hnx:sched b (t - 16+1)=(sched b (t - 16)).set t (next (sched b (t - 16)) t):=by
      have:=sched_succ b (t - 16)
      rwa [show 16+(t - 16)=t by omega] at this
     have g1':=blk_arr_set g1 t (next (sched b (t - 16)) t)
     rw [← hnx,show t - 16+1=t+1 - 16 by omega] at g1'
     have G1:Hid (∀ v,v=next (sched b (t - 16)) t→(wr.setCell ⟨w.heap.size+1,t,none⟩ (.int .u64 v)).heap[w.heap.size+1]? = some (.cells (arr .u64 (sched b (t+1 - 16))) 177 (0,0))):=Lib.hid (by rintro v rfl;exact g1')
     have G2:=Lib.hid g2
     have HBW:=Lib.hid hbw
     clear g1 g1' g2 hbw hsl hnx
     unfold next at G1
     generalize (sched b (t - 16)).getD (t - 2) 0=y2 at x2 G1
     generalize (sched b (t - 16)).getD (t - 7) 0=y7 at x7 G1
     generalize (sched b (t - 16)).getD (t - 15) 0=y15 at x15 G1
     generalize (sched b (t - 16)).getD (t - 16) 0=y16 at x16 G1
     have i15:IntKind.i64.wrap ((t:Int) - 15)=(t:Int) - 15:=IntWalk.i64_in _ (by omega)
     have i2:IntKind.i64.wrap ((t:Int) - 2)=(t:Int) - 2:=IntWalk.i64_in _ (by omega)
     have i7:IntKind.i64.wrap ((t:Int) - 7)=(t:Int) - 7:=IntWalk.i64_in _ (by omega)
     have i16:IntKind.i64.wrap ((t:Int) - 16)=(t:Int) - 16:=IntWalk.i64_in _ (by omega)
     have n15:((t:Int) - 15).toNat=t - 15:=by omega
     have n2:((t:Int) - 2).toNat=t - 2:=by omega
     have n7:((t:Int) - 7).toNat=t - 7:=by omega
     have n16:((t:Int) - 16).toNat=t - 16:=by omega
     go_wp2_with fail
     go_region
     go_wp2_with (go_at_call 173; first|((with_reducible refine (rl_1 _ _).mono ?_);rintro e w' ⟨rfl,rfl⟩)|((with_reducible refine (rl_8 _ _).mono ?_);rintro e w' ⟨rfl,rfl⟩)|((with_reducible refine (rl_19 _ _).mono ?_);rintro e w' ⟨rfl,rfl⟩)|((with_reducible refine (rl_61 _ _).mono ?_);rintro e w' ⟨rfl,rfl⟩))
     go_region
     clear i15 i2 i7 i16 n15 n2 n7 n16
     go_wp2_with fail
     go_roundw
     case rel=>exact ⟨t+1,by omega,by omega,by go_num,G1.out _ (flat4 (s1 y2) y7 (s0 y15) y16),blk_setCell_ne G2.out _ (by omega),((HBW.out.setCell (p:=⟨w.heap.size+1,t,none⟩) (by simp) _).drew).drew⟩
     case measure=>simp [intOf];omega
    ·obtain rfl:t=80:=by omega
     have z1:(Tryd.prog.info? 177).map (·.size)=some (sched b 64).length:=by rw [sched_len];exact sizeR
     have z2:(Tryd.prog.info? 177).map (·.size)=some (arr .u64 (sched b 64)).size:=by rw [arr_size,sched_len];exact sizeR
     have z3:(arr .u64 (sched b 64)).size=(arr .u64 (List.replicate 80 0)).size:=by rw [arr_size,arr_size,sched_len,List.length_replicate]
     have z4:((arr .u64 (sched b 64)).toList.drop 0).take (sched b 64).length=(sched b 64).map (Value.int .u64):=by rw [arr_toList,List.drop_zero,List.take_of_length_le (by simp)]
     have G1:=Lib.hid g1
     have G2:=Lib.hid g2
     have HBW:=Lib.hid hbw
     have Z1:=Lib.hid z1
     have Z2:=Lib.hid z2
     have Z3:=Lib.hid z3
     have Z4:=Lib.hid z4
     clear g1 g2 hbw z1 z2 z3 z4
     go_wp2_with (first|((with_reducible refine aS 74 ?_);refine wpList_load_part rfl 177 _ rfl (w.heap.size+1) 0 _ 177 (0,0) _ G1.out rfl .u64 (sched b 64) Z4.out Tryd.underlying177 rfl Z1.out ?_)|((with_reducible show wpList _ _ _ (Oper.mk none _ _ _ _ _ :: _) _ _);refine wpList_store_whole rfl 177 _ _ rfl w.heap.size _ _ 177 G2.out rfl rfl Z3.out Z2.out (all_arr _ _) ?_;intro w2 hb2 hk2 hz2;have HB2:=Lib.hid hb2;have HK2:=Lib.hid hk2;clear hb2 hk2 hz2))
     (try simp only [Exit.inBlock,Exit.then])
     refine bodyPost_ret (results_cell_row rfl _ _ w.heap.size 177 _ (0,0) _ rfl HB2.out Tryd.underlying177 rfl Z2.out) rfl ?_
     exact ⟨rfl,HBW.out.trans (HK2.out.toBelow HBW.out.size (by rintro i rfl;exact Nat.le_refl _))⟩
end Go.Proofs.YtodnkallpfkdiaaDoor.Hb
namespace Go.Proofs.YtodnkallpfkdiaaDoor.Hb
open Go.RowKit
theorem zero8 (w:World):(zeroValue 172).run Tryd.prog w = .ok (.agg (arr .u64 (List.replicate 8 0))) w:=by kernel_rfl
theorem list8_eq {a0 a1 a2 a3 a4 a5 a6 a7 b0 b1 b2 b3 b4 b5 b6 b7:Int} (h0:a0=b0) (h1:a1=b1) (h2:a2=b2) (h3:a3=b3) (h4:a4=b4) (h5:a5=b5) (h6:a6=b6) (h7:a7=b7) :
  [a0,a1,a2,a3,a4,a5,a6,a7]=[b0,b1,b2,b3,b4,b5,b6,b7]:=by
 subst h0 h1 h2 h3 h4 h5 h6 h7
 rfl
theorem flat1 (a b:Int):IntKind.u64.wrap (a+b)=add a b:=rfl
/-- A store of eight integers over an array of eight. -/
theorem wpList_store8 {P:Program} {ops:Array Oper} {rest:List Oper} {o:Oper} {a:Act} {w:World} {Q:Exit→Act→World→Prop} (hgd:o.guard=none) (ty:TypeId) (x y:Operand) (ho:o.op = .store ty x y)
  (g:Nat) (k:IntKind) (ys:List Int) (t:TypeId) (hb:w.heap[g]? = some (.cells (arr k ys) t (0,0))) (hx:a.eval x = .pointer (some ⟨g,0,none⟩)) (a0 a1 a2 a3 a4 a5 a6 a7:Int)
  (hy:a.eval y = .agg #[Value.int k a0, .int k a1, .int k a2, .int k a3, .int k a4, .int k a5, .int k a6, .int k a7]) (hl:ys.length=8) (hi:(P.info? ty).map (·.size)=some 8)
  (h:∀ w',w'.heap[g]? = some (.cells (arr k [a0,a1,a2,a3,a4,a5,a6,a7]) t (0,0))→Kept (fun i=>i=g) w w'→w'.heap.size=w.heap.size→wpList P ops Q rest (a.put o.dst undef) w') :
  wpList P ops Q (o :: rest) a w:=by
 refine wpList_store_whole hgd ty x y ho g (arr k ys) (arr k [a0,a1,a2,a3,a4,a5,a6,a7]) t hb hx hy ?_ ?_ (all_arr _ _) h
 ·rw [arr_size,arr_size,hl];rfl
 ·rw [arr_size];exact hi
/-- What holds at the label: t rounds are done. -/
structure TurnJ (w w':World) (p g2 g3:Nat) (h b ws:List Int) (n l:Int) (t:Nat):Prop where
 le:t≤80
 b2:w'.heap[g2]? = some (.cells (arr .u64 ws) 177 (0,0))
 b3:w'.heap[g3]? = some (.cells (arr .u64 (rounds ws h t)) 172 (0,0))
 st:IsSt w' p h b n l
 below:Below w.heap.size w w'
 d2:w.heap.size≤g2
 d3:g2 < g3
def TJ (w:World) (p:Nat) (h b ws:List Int) (n l:Int) (a':Act) (w':World):Prop :=
 a'.defers=[]∧a'.tmps.size=122∧∃ (g2 g3 t:Nat),a'.tmps.getD 0 undef = .pointer (some ⟨p,0,none⟩)∧a'.tmps.getD 2 undef = .pointer (some ⟨g2,0,none⟩)∧a'.tmps.getD 3 undef = .pointer (some ⟨g3,0,none⟩)∧a'.tmps.getD 4 undef = .int .i64 (t:Int)∧TurnJ w w' p g2 g3 h b ws n l t
theorem list_range (n:Nat) (l:List Value) (h:l.length=n):l=(List.range n).map fun i=>l.getD i undef:=by
 apply List.ext_getElem
 ·simp [h]
 ·intro i h1 h2
  simp [List.getD,h1]
/-- A frame of so many slots, slot by slot. -/
theorem frame122 {motive:Act→Prop} (h:∀ u0 u1 u2 u3 u4 u5 u6 u7 u8 u9 u10 u11 u12 u13 u14 u15 u16 u17 u18 u19 u20 u21 u22 u23 u24 u25 u26 u27 u28 u29 u30 u31 u32 u33 u34 u35 u36 u37 u38 u39 u40 u41 u42 u43 u44 u45 u46 u47 u48 u49 u50 u51 u52 u53 u54 u55 u56 u57 u58 u59 u60 u61 u62 u63 u64 u65 u66 u67 u68 u69 u70 u71 u72 u73 u74 u75 u76 u77 u78 u79 u80 u81 u82 u83 u84 u85 u86 u87 u88 u89 u90 u91 u92 u93 u94 u95 u96 u97 u98 u99 u100 u101 u102 u103 u104 u105 u106 u107 u108 u109 u110 u111 u112 u113 u114 u115 u116 u117 u118 u119 u120 u121:Value,motive { tmps := #[u0,u1,u2,u3,u4,u5,u6,u7,u8,u9,u10,u11,u12,u13,u14,u15,u16,u17,u18,u19,u20,u21,u22,u23,u24,u25,u26,u27,u28,u29,u30,u31,u32,u33,u34,u35,u36,u37,u38,u39,u40,u41,u42,u43,u44,u45,u46,u47,u48,u49,u50,u51,u52,u53,u54,u55,u56,u57,u58,u59,u60,u61,u62,u63,u64,u65,u66,u67,u68,u69,u70,u71,u72,u73,u74,u75,u76,u77,u78,u79,u80,u81,u82,u83,u84,u85,u86,u87,u88,u89,u90,u91,u92,u93,u94,u95,u96,u97,u98,u99,u100,u101,u102,u103,u104,u105,u106,u107,u108,u109,u110,u111,u112,u113,u114,u115,u116,u117,u118,u119,u120,u121],defers:=[] }) (a:Act) (hd:a.defers=[]) (hs:a.tmps.size=122):motive a:=by
 obtain ⟨⟨l⟩,d⟩:=a
 simp only at hd
 subst hd
 have e:=list_range 122 l hs
 have e2:((List.range 122).map fun i=>l.getD i undef)=[l.getD 0 undef,l.getD 1 undef,l.getD 2 undef,l.getD 3 undef,l.getD 4 undef,l.getD 5 undef,l.getD 6 undef,l.getD 7 undef,l.getD 8 undef,l.getD 9 undef,l.getD 10 undef,l.getD 11 undef,l.getD 12 undef,l.getD 13 undef,l.getD 14 undef,l.getD 15 undef,l.getD 16 undef,l.getD 17 undef,l.getD 18 undef,l.getD 19 undef,l.getD 20 undef,l.getD 21 undef,l.getD 22 undef,l.getD 23 undef,l.getD 24 undef,l.getD 25 undef,l.getD 26 undef,l.getD 27 undef,l.getD 28 undef,l.getD 29 undef,l.getD 30 undef,l.getD 31 undef,l.getD 32 undef,l.getD 33 undef,l.getD 34 undef,l.getD 35 undef,l.getD 36 undef,l.getD 37 undef,l.getD 38 undef,l.getD 39 undef,l.getD 40 undef,l.getD 41 undef,l.getD 42 undef,l.getD 43 undef,l.getD 44 undef,l.getD 45 undef,l.getD 46 undef,l.getD 47 undef,l.getD 48 undef,l.getD 49 undef,l.getD 50 undef,l.getD 51 undef,l.getD 52 undef,l.getD 53 undef,l.getD 54 undef,l.getD 55 undef,l.getD 56 undef,l.getD 57 undef,l.getD 58 undef,l.getD 59 undef,l.getD 60 undef,l.getD 61 undef,l.getD 62 undef,l.getD 63 undef,l.getD 64 undef,l.getD 65 undef,l.getD 66 undef,l.getD 67 undef,l.getD 68 undef,l.getD 69 undef,l.getD 70 undef,l.getD 71 undef,l.getD 72 undef,l.getD 73 undef,l.getD 74 undef,l.getD 75 undef,l.getD 76 undef,l.getD 77 undef,l.getD 78 undef,l.getD 79 undef,l.getD 80 undef,l.getD 81 undef,l.getD 82 undef,l.getD 83 undef,l.getD 84 undef,l.getD 85 undef,l.getD 86 undef,l.getD 87 undef,l.getD 88 undef,l.getD 89 undef,l.getD 90 undef,l.getD 91 undef,l.getD 92 undef,l.getD 93 undef,l.getD 94 undef,l.getD 95 undef,l.getD 96 undef,l.getD 97 undef,l.getD 98 undef,l.getD 99 undef,l.getD 100 undef,l.getD 101 undef,l.getD 102 undef,l.getD 103 undef,l.getD 104 undef,l.getD 105 undef,l.getD 106 undef,l.getD 107 undef,l.getD 108 undef,l.getD 109 undef,l.getD 110 undef,l.getD 111 undef,l.getD 112 undef,l.getD 113 undef,l.getD 114 undef,l.getD 115 undef,l.getD 116 undef,l.getD 117 undef,l.getD 118 undef,l.getD 119 undef,l.getD 120 undef,l.getD 121 undef]:=rfl
 rw [e2] at e
 have:=h (l.getD 0 undef) (l.getD 1 undef) (l.getD 2 undef) (l.getD 3 undef) (l.getD 4 undef) (l.getD 5 undef) (l.getD 6 undef) (l.getD 7 undef) (l.getD 8 undef) (l.getD 9 undef) (l.getD 10 undef) (l.getD 11 undef) (l.getD 12 undef) (l.getD 13 undef) (l.getD 14 undef) (l.getD 15 undef) (l.getD 16 undef) (l.getD 17 undef) (l.getD 18 undef) (l.getD 19 undef) (l.getD 20 undef) (l.getD 21 undef) (l.getD 22 undef) (l.getD 23 undef) (l.getD 24 undef) (l.getD 25 undef) (l.getD 26 undef) (l.getD 27 undef) (l.getD 28 undef) (l.getD 29 undef) (l.getD 30 undef) (l.getD 31 undef) (l.getD 32 undef) (l.getD 33 undef) (l.getD 34 undef) (l.getD 35 undef) (l.getD 36 undef) (l.getD 37 undef) (l.getD 38 undef) (l.getD 39 undef) (l.getD 40 undef) (l.getD 41 undef) (l.getD 42 undef) (l.getD 43 undef) (l.getD 44 undef) (l.getD 45 undef) (l.getD 46 undef) (l.getD 47 undef) (l.getD 48 undef) (l.getD 49 undef) (l.getD 50 undef) (l.getD 51 undef) (l.getD 52 undef) (l.getD 53 undef) (l.getD 54 undef) (l.getD 55 undef) (l.getD 56 undef) (l.getD 57 undef) (l.getD 58 undef) (l.getD 59 undef) (l.getD 60 undef) (l.getD 61 undef) (l.getD 62 undef) (l.getD 63 undef) (l.getD 64 undef) (l.getD 65 undef) (l.getD 66 undef) (l.getD 67 undef) (l.getD 68 undef) (l.getD 69 undef) (l.getD 70 undef) (l.getD 71 undef) (l.getD 72 undef) (l.getD 73 undef) (l.getD 74 undef) (l.getD 75 undef) (l.getD 76 undef) (l.getD 77 undef) (l.getD 78 undef) (l.getD 79 undef) (l.getD 80 undef) (l.getD 81 undef) (l.getD 82 undef) (l.getD 83 undef) (l.getD 84 undef) (l.getD 85 undef) (l.getD 86 undef) (l.getD 87 undef) (l.getD 88 undef) (l.getD 89 undef) (l.getD 90 undef) (l.getD 91 undef) (l.getD 92 undef) (l.getD 93 undef) (l.getD 94 undef) (l.getD 95 undef) (l.getD 96 undef) (l.getD 97 undef) (l.getD 98 undef) (l.getD 99 undef) (l.getD 100 undef) (l.getD 101 undef) (l.getD 102 undef) (l.getD 103 undef) (l.getD 104 undef) (l.getD 105 undef) (l.getD 106 undef) (l.getD 107 undef) (l.getD 108 undef) (l.getD 109 undef) (l.getD 110 undef) (l.getD 111 undef) (l.getD 112 undef) (l.getD 113 undef) (l.getD 114 undef) (l.getD 115 undef) (l.getD 116 undef) (l.getD 117 undef) (l.getD 118 undef) (l.getD 119 undef) (l.getD 120 undef) (l.getD 121 undef)
 rwa [← e] at this
theorem turn_any (p:Nat) (h b:List Int) (n l:Int) (w:World) (s:IsSt w p h b n l) (hb:∀ x∈b,0≤x∧x≤255) :
  Calls Tryd.prog 167 #[.pointer (some ⟨p,0,none⟩)] w fun e w'=>e = .returned (.tuple #[])∧IsSt w' p (comp h b) b n l∧Kept (fun x=>x=p) w w':=by
 have hsc:=sched_any p h b n l w s hb
 obtain ⟨ws,ews⟩:∃ ws,ws=sched b 64:=⟨_,rfl⟩
 have hwl:ws.length=80:=by rw [ews];exact sched_len _ _
 rw [← ews] at hsc
 have hp8:=stC_parth h b n l
 have hz8:(Tryd.prog.info? 172).map (·.size)=some h.length:=by rw [s.hl];exact size8
 have z1:(Tryd.prog.info? 177).map (·.size)=some (arr .u64 ws).size:=by rw [arr_size,hwl];exact sizeR
 have z2:(arr .u64 ws).size=(arr .u64 (List.replicate 80 0)).size:=by rw [arr_size,arr_size,hwl,List.length_replicate]
 have z3:(Tryd.prog.info? 172).map (·.size)=some (arr .u64 h).size:=by rw [arr_size,s.hl];exact size8
 have z4:(arr .u64 h).size=(arr .u64 (List.replicate 8 0)).size:=by rw [arr_size,arr_size,s.hl,List.length_replicate]
 have HSC:=Lib.hid hsc
 have HP8:=Lib.hid hp8
 have HZ8:=Lib.hid hz8
 have Z1:=Lib.hid z1
 have Z2:=Lib.hid z2
 have Z3:=Lib.hid z3
 have Z4:=Lib.hid z4
 have HWL:=Lib.hid hwl
 have HE:=Lib.hid ews
 have HS:=Lib.hid s
 clear hsc hp8 hz8 z1 z2 z3 z4 hwl ews s
 go_enter Tryd.func167, Tryd.ntmps167
 refine wp_scope_jumps 0 (TJ w p h b ws n l) (fun a' _=>(80 - intOf (a'.tmps.getD 4 undef)).toNat) rfl ?_ ?_
 ·go_wp2_with (first|(go_at_call 172; refine HSC.out.mono ?_;rintro e w1 ⟨rfl,hb1⟩;have hst1:=HS.out.below hb1;have HST1:=Lib.hid hst1;have HB1:=Lib.hid hb1;clear hst1 hb1)|((with_reducible refine aS 2 ?_);refine wpList_alloc_row rfl 177 rfl _ (zeroR _) ?_;have HA1:=Lib.hid (blk_new w1 (.cells (arr .u64 (List.replicate 80 0)) 177)))|((with_reducible show wpList _ _ _ (Oper.mk none _ _ _ _ _ :: _) _ _);refine wpList_store_whole rfl 177 _ _ rfl w1.heap.size _ _ 177 HA1.out rfl rfl Z2.out Z1.out (all_arr _ _) ?_;intro w2 hb2 hk2 hz2;have hst2:=(HST1.out.alloc _).kept hk2 (by have:=blk_lt HST1.out.blk;omega);have HST2:=Lib.hid hst2;have HB2:=Lib.hid hb2;have HK2:=Lib.hid hk2;have HZ2:=Lib.hid hz2;clear hst2 hb2 hk2 hz2)|((with_reducible refine aS 17 ?_);refine wpList_load_part rfl 172 _ rfl p 0 _ 199 (0,0) _ HST2.out.blk rfl .u64 h HP8.out Tryd.underlying172 rfl HZ8.out ?_)|((with_reducible refine aS 3 ?_);refine wpList_alloc_row rfl 172 rfl _ (zero8 _) ?_;have HA3:=Lib.hid (blk_new w2 (.cells (arr .u64 (List.replicate 8 0)) 172)))|((with_reducible show wpList _ _ _ (Oper.mk none _ _ _ _ _ :: _) _ _);refine wpList_store_whole rfl 172 _ _ rfl w2.heap.size _ _ 172 HA3.out rfl rfl Z4.out Z3.out (all_arr _ _) ?_;intro w3 hb3 hk3 hz3;have HB3:=Lib.hid hb3;have HK3:=Lib.hid hk3;have HZ3:=Lib.hid hz3;clear hb3 hk3 hz3))
  refine (fun (H:∀ (a:Act) (w':World),TJ w p h b ws n l a w'→Code.wp Tryd.prog (Code.label 0) _ a w')=>H _ _ ?hj0) ?hmain
  case hj0 =>
   have e2:w2.heap.size=w1.heap.size+1:=by rw [HZ2.out];simp
   have l1:=HB1.out.size
   have lp:=blk_lt HST2.out.blk
   have lp1:=blk_lt HS.out.blk
   refine ⟨rfl,rfl,w1.heap.size,w2.heap.size,0,rfl,rfl,rfl,rfl,⟨by omega,HK3.out.blk (blk_alloc HB2.out _) (by omega),HB3.out,(HST2.out.alloc _).kept HK3.out (by omega),?_,l1,by omega⟩⟩
   have q1:Below w.heap.size w w2:=(HB1.out.alloc HB1.out.size _).trans (HK2.out.toBelow (by simp;omega) (by rintro i rfl;exact l1))
   exact (q1.alloc q1.size _).trans (HK3.out.toBelow (by simp;omega) (by rintro i rfl;omega))
  clear HST2 HB2 HK2 HZ2 HB3 HK3 HZ3 HA1 HA3 HST1 HB1
  intro a w' hj
  obtain ⟨hfd,hfs,g2,g3,t,h0,h2,h3,h4,hJ⟩:=hj
  obtain ⟨ht,hb2,hb3,hst,hbw,hd2,hd3⟩:=hJ
  refine frame122 (motive:=fun a=>a.tmps.getD 0 undef = .pointer (some ⟨p,0,none⟩)→a.tmps.getD 2 undef = .pointer (some ⟨g2,0,none⟩)→a.tmps.getD 3 undef = .pointer (some ⟨g3,0,none⟩)→a.tmps.getD 4 undef = .int .i64 (t:Int)→Code.wp _ _ _ a w') ?_ a hfd hfs h0 h2 h3 h4
  clear h0 h2 h3 h4 hfd hfs
  intro u0 u1 u2 u3 u4 u5 u6 u7 u8 u9 u10 u11 u12 u13 u14 u15 u16 u17 u18 u19 u20 u21 u22 u23 u24 u25 u26 u27 u28 u29 u30 u31 u32 u33 u34 u35 u36 u37 u38 u39 u40 u41 u42 u43 u44 u45 u46 u47 u48 u49 u50 u51 u52 u53 u54 u55 u56 u57 u58 u59 u60 u61 u62 u63 u64 u65 u66 u67 u68 u69 u70 u71 u72 u73 u74 u75 u76 u77 u78 u79 u80 u81 u82 u83 u84 u85 u86 u87 u88 u89 u90 u91 u92 u93 u94 u95 u96 u97 u98 u99 u100 u101 u102 u103 u104 u105 u106 u107 u108 u109 u110 u111 u112 u113 u114 u115 u116 u117 u118 u119 u120 u121 h0 h2 h3 h4
  have k0:u0 = .pointer (some ⟨p,0,none⟩):=h0
  have k2:u2 = .pointer (some ⟨g2,0,none⟩):=h2
  have k3:u3 = .pointer (some ⟨g3,0,none⟩):=h3
  have k4:u4 = .int .i64 (t:Int):=h4
  clear h0 h2 h3 h4
  subst k0 k2 k3 k4
  go_step3
  have hpl:=blk_lt HS.out.blk
  by_cases hlt:t < 80
  ·have hvl:=rounds_len ws h HS.out.hl t
   have x0:=blk_arr hb3 0 (by omega)
   have x1:=blk_arr hb3 1 (by omega)
   have x2:=blk_arr hb3 2 (by omega)
   have x3:=blk_arr hb3 3 (by omega)
   have x4:=blk_arr hb3 4 (by omega)
   have x5:=blk_arr hb3 5 (by omega)
   have x6:=blk_arr hb3 6 (by omega)
   have x7:=blk_arr hb3 7 (by omega)
   have xk:=hst.at_k t hlt
   have xw:=blk_arr hb2 t (by rw [HWL.out];omega)
   have HN:Hid (∀ cs,cs=arr .u64 (rnd (K.getD t 0) (ws.getD t 0) (rounds ws h t))→cs=arr .u64 (rounds ws h (t+1))):=Lib.hid (by rintro cs rfl;rw [rounds_succ])
   have HV8:=Lib.hid hvl
   have HB2:=Lib.hid hb2
   have HB3:=Lib.hid hb3
   have HST:=Lib.hid hst
   have HBW:=Lib.hid hbw
   clear hb2 hb3 hst hbw hvl
   unfold rnd tx ty at HN
   generalize (rounds ws h t).getD 0 0=v0 at x0 HN
   generalize (rounds ws h t).getD 1 0=v1 at x1 HN
   generalize (rounds ws h t).getD 2 0=v2 at x2 HN
   generalize (rounds ws h t).getD 3 0=v3 at x3 HN
   generalize (rounds ws h t).getD 4 0=v4 at x4 HN
   generalize (rounds ws h t).getD 5 0=v5 at x5 HN
   generalize (rounds ws h t).getD 6 0=v6 at x6 HN
   generalize (rounds ws h t).getD 7 0=v7 at x7 HN
   generalize K.getD t 0=kt at xk HN
   generalize ws.getD t 0=wt at xw HN
   go_wp2_with fail
   go_region
   go_wp2_with (go_at_call 173; first|((with_reducible refine (rl_14 _ _).mono ?_);rintro e w' ⟨rfl,rfl⟩)|((with_reducible refine (rl_18 _ _).mono ?_);rintro e w' ⟨rfl,rfl⟩)|((with_reducible refine (rl_28 _ _).mono ?_);rintro e w' ⟨rfl,rfl⟩)|((with_reducible refine (rl_34 _ _).mono ?_);rintro e w' ⟨rfl,rfl⟩)|((with_reducible refine (rl_39 _ _).mono ?_);rintro e w' ⟨rfl,rfl⟩)|((with_reducible refine (rl_41 _ _).mono ?_);rintro e w' ⟨rfl,rfl⟩))
   go_quiet (fail)
   go_wp2_with ((with_reducible show wpList _ _ _ (Oper.mk none _ _ _ _ _ :: _) _ _);refine wpList_store8 rfl 172 _ _ rfl g3 .u64 _ 172 HB3.out rfl _ _ _ _ _ _ _ _ rfl HV8.out size8 ?_;intro w4 hb4 hk4 hz4;have HB4:=Lib.hid hb4;have HK4:=Lib.hid hk4;clear hb4 hk4 hz4)
   go_step3
   refine ⟨rfl,rfl,rfl,g2,g3,t+1,rfl,rfl,rfl,by go_num,⟨by omega,HK4.out.blk HB2.out (by omega),?_,HST.out.kept (w:=w') ⟨HK4.out.os,HK4.out.tape,HK4.out.output,HK4.out.size,HK4.out.block⟩ (by omega),HBW.out.trans (Kept.toBelow (a:=w') ⟨HK4.out.os,HK4.out.tape,HK4.out.output,HK4.out.size,HK4.out.block⟩ HBW.out.size (by rintro i rfl;omega)),hd2,hd3⟩⟩
   ·rw [HB4.out]
    exact congrArg (fun c=>some (Obj.cells c 172 (0,0))) (HN.out _ (congrArg (arr .u64) (list8_eq rfl rfl rfl rfl rfl rfl rfl rfl)))
  ·have et:t=80:=by omega
   obtain ⟨vv,evv⟩:∃ vv,vv=rounds ws h 80:=⟨_,rfl⟩
   rw [et,← evv] at hb3
   have hcomp:sums h vv 8=comp h b:=by rw [evv,HE.out];rfl
   have hvl:vv.length=8:=by rw [evv];exact rounds_len ws h HS.out.hl _
   have HCOMP:=Lib.hid hcomp
   have HVL:=Lib.hid hvl
   have HB3:=Lib.hid hb3
   have HST:=Lib.hid hst
   have HBW:=Lib.hid hbw
   clear et evv hcomp hvl hb2 hb3 hst hbw
   go_wp2_with fail
   go_loopw [105] (fun i wr=>∃ j:Nat,j≤8∧i = .int .i64 j∧wr.heap[g3]? = some (.cells (arr .u64 vv) 172 (0,0))∧IsSt wr p (sums h vv j) b n l∧Kept (fun x=>x=p) w wr) (fun i _=>8 - (intOf i).toNat)
   case atStart=>exact ⟨0,Nat.zero_le _,rfl,HB3.out,by rw [sums_zero];exact HST.out,Kept.of_below HBW.out⟩
   case round =>
    obtain ⟨j,hj8,rfl,hg,hs,hkp⟩:=hrel
    by_cases hl8:j < 8
    ·have y0:=hs.at_h j hl8
     rw [sums_get h vv j j (by rw [HS.out.hl];exact hl8) (Nat.le_refl _)] at y0
     have y1:=blk_arr hg j (by rw [HVL.out];exact hl8)
     have y2:=hs.fr j
     have S1:Hid (∀ x,x=add (h.getD j 0) (vv.getD j 0)→IsSt (wr.setCell ⟨p,j,none⟩ (.int .u64 x)) p (sums h vv (j+1)) b n l) :=
      Lib.hid (by rintro x rfl;rw [sums_succ h vv j (by rw [HS.out.hl];exact hl8)];exact hs.set_h j hl8 _)
     have HG:=Lib.hid hg
     have HKP:=Lib.hid hkp
     clear hg hs hkp
     generalize h.getD j 0=hj0 at y0 S1
     generalize vv.getD j 0=vj at y1 S1
     go_wp2_with fail
     go_region
     go_wp2_with fail
     go_roundw
     case rel=>exact ⟨j+1,by omega,by go_num,blk_setCell_ne HG.out _ (by omega),(S1.out _ (flat1 _ _)).drew,(HKP.out.setCell (p:=⟨p,j,none⟩) (.inl rfl) _).drew⟩
     case measure=>simp [intOf];omega
    ·have e8:j=8:=by omega
     rw [e8,HCOMP.out] at hs
     have HSE:=Lib.hid hs
     have HKP:=Lib.hid hkp
     clear e8 hg hs hkp
     go_wp2_with fail
     (try simp only [Exit.jump])
     go_end0
     exact ⟨rfl,HSE.out,HKP.out⟩
 ·intro a w' hj
  obtain ⟨hfd,hfs,g2,g3,t,h0,h2,h3,h4,hJ⟩:=hj
  obtain ⟨ht,hb2,hb3,hst,hbw,hd2,hd3⟩:=hJ
  refine frame122 (motive:=fun a=>a.tmps.getD 0 undef = .pointer (some ⟨p,0,none⟩)→a.tmps.getD 2 undef = .pointer (some ⟨g2,0,none⟩)→a.tmps.getD 3 undef = .pointer (some ⟨g3,0,none⟩)→a.tmps.getD 4 undef = .int .i64 (t:Int)→Code.wp _ _ (Exit.jump 0 (fun a' w''=>TJ w p h b ws n l a' w''∧(80 - intOf (a'.tmps.getD 4 undef)).toNat < (80 - intOf (a.tmps.getD 4 undef)).toNat) _) a w') ?_ a hfd hfs h0 h2 h3 h4
  clear h0 h2 h3 h4 hfd hfs
  intro u0 u1 u2 u3 u4 u5 u6 u7 u8 u9 u10 u11 u12 u13 u14 u15 u16 u17 u18 u19 u20 u21 u22 u23 u24 u25 u26 u27 u28 u29 u30 u31 u32 u33 u34 u35 u36 u37 u38 u39 u40 u41 u42 u43 u44 u45 u46 u47 u48 u49 u50 u51 u52 u53 u54 u55 u56 u57 u58 u59 u60 u61 u62 u63 u64 u65 u66 u67 u68 u69 u70 u71 u72 u73 u74 u75 u76 u77 u78 u79 u80 u81 u82 u83 u84 u85 u86 u87 u88 u89 u90 u91 u92 u93 u94 u95 u96 u97 u98 u99 u100 u101 u102 u103 u104 u105 u106 u107 u108 u109 u110 u111 u112 u113 u114 u115 u116 u117 u118 u119 u120 u121 h0 h2 h3 h4
  have k0:u0 = .pointer (some ⟨p,0,none⟩):=h0
  have k2:u2 = .pointer (some ⟨g2,0,none⟩):=h2
  have k3:u3 = .pointer (some ⟨g3,0,none⟩):=h3
  have k4:u4 = .int .i64 (t:Int):=h4
  clear h0 h2 h3 h4
  subst k0 k2 k3 k4
  have hpl:=blk_lt HS.out.blk
  by_cases hlt:t < 80
  ·have hvl:=rounds_len ws h HS.out.hl t
   have x0:=blk_arr hb3 0 (by omega)
   have x1:=blk_arr hb3 1 (by omega)
   have x2:=blk_arr hb3 2 (by omega)
   have x3:=blk_arr hb3 3 (by omega)
   have x4:=blk_arr hb3 4 (by omega)
   have x5:=blk_arr hb3 5 (by omega)
   have x6:=blk_arr hb3 6 (by omega)
   have x7:=blk_arr hb3 7 (by omega)
   have xk:=hst.at_k t hlt
   have xw:=blk_arr hb2 t (by rw [HWL.out];omega)
   have HN:Hid (∀ cs,cs=arr .u64 (rnd (K.getD t 0) (ws.getD t 0) (rounds ws h t))→cs=arr .u64 (rounds ws h (t+1))):=Lib.hid (by rintro cs rfl;rw [rounds_succ])
   have HV8:=Lib.hid hvl
   have HB2:=Lib.hid hb2
   have HB3:=Lib.hid hb3
   have HST:=Lib.hid hst
   have HBW:=Lib.hid hbw
   clear hb2 hb3 hst hbw hvl
   unfold rnd tx ty at HN
   generalize (rounds ws h t).getD 0 0=v0 at x0 HN
   generalize (rounds ws h t).getD 1 0=v1 at x1 HN
   generalize (rounds ws h t).getD 2 0=v2 at x2 HN
   generalize (rounds ws h t).getD 3 0=v3 at x3 HN
   generalize (rounds ws h t).getD 4 0=v4 at x4 HN
   generalize (rounds ws h t).getD 5 0=v5 at x5 HN
   generalize (rounds ws h t).getD 6 0=v6 at x6 HN
   generalize (rounds ws h t).getD 7 0=v7 at x7 HN
   generalize K.getD t 0=kt at xk HN
   generalize ws.getD t 0=wt at xw HN
   go_wp2_with fail
   go_region
   go_wp2_with (go_at_call 173; first|((with_reducible refine (rl_14 _ _).mono ?_);rintro e w' ⟨rfl,rfl⟩)|((with_reducible refine (rl_18 _ _).mono ?_);rintro e w' ⟨rfl,rfl⟩)|((with_reducible refine (rl_28 _ _).mono ?_);rintro e w' ⟨rfl,rfl⟩)|((with_reducible refine (rl_34 _ _).mono ?_);rintro e w' ⟨rfl,rfl⟩)|((with_reducible refine (rl_39 _ _).mono ?_);rintro e w' ⟨rfl,rfl⟩)|((with_reducible refine (rl_41 _ _).mono ?_);rintro e w' ⟨rfl,rfl⟩))
   go_quiet (fail)
   go_wp2_with ((with_reducible show wpList _ _ _ (Oper.mk none _ _ _ _ _ :: _) _ _);refine wpList_store8 rfl 172 _ _ rfl g3 .u64 _ 172 HB3.out rfl _ _ _ _ _ _ _ _ rfl HV8.out size8 ?_;intro w4 hb4 hk4 hz4;have HB4:=Lib.hid hb4;have HK4:=Lib.hid hk4;clear hb4 hk4 hz4)
   go_step3
   refine ⟨rfl,⟨rfl,rfl,g2,g3,t+1,rfl,rfl,rfl,by go_num,⟨by omega,HK4.out.blk HB2.out (by omega),?_,HST.out.kept (w:=w') ⟨HK4.out.os,HK4.out.tape,HK4.out.output,HK4.out.size,HK4.out.block⟩ (by omega),HBW.out.trans (Kept.toBelow (a:=w') ⟨HK4.out.os,HK4.out.tape,HK4.out.output,HK4.out.size,HK4.out.block⟩ HBW.out.size (by rintro i rfl;omega)),hd2,hd3⟩⟩,by simp [intOf];omega⟩
   ·rw [HB4.out]
    exact congrArg (fun c=>some (Obj.cells c 172 (0,0))) (HN.out _ (congrArg (arr .u64) (list8_eq rfl rfl rfl rfl rfl rfl rfl rfl)))
  ·have et:t=80:=by omega
   obtain ⟨vv,evv⟩:∃ vv,vv=rounds ws h 80:=⟨_,rfl⟩
   rw [et,← evv] at hb3
   have hcomp:sums h vv 8=comp h b:=by rw [evv,HE.out];rfl
   have hvl:vv.length=8:=by rw [evv];exact rounds_len ws h HS.out.hl _
   have HCOMP:=Lib.hid hcomp
   have HVL:=Lib.hid hvl
   have HB3:=Lib.hid hb3
   have HST:=Lib.hid hst
   have HBW:=Lib.hid hbw
   clear et evv hcomp hvl hb2 hb3 hst hbw
   go_wp2_with fail
   go_loopw [105] (fun i wr=>∃ j:Nat,j≤8∧i = .int .i64 j∧wr.heap[g3]? = some (.cells (arr .u64 vv) 172 (0,0))∧IsSt wr p (sums h vv j) b n l∧Kept (fun x=>x=p) w wr) (fun i _=>8 - (intOf i).toNat)
   case atStart=>exact ⟨0,Nat.zero_le _,rfl,HB3.out,by rw [sums_zero];exact HST.out,Kept.of_below HBW.out⟩
   case round =>
    obtain ⟨j,hj8,rfl,hg,hs,hkp⟩:=hrel
    by_cases hl8:j < 8
    ·have y0:=hs.at_h j hl8
     rw [sums_get h vv j j (by rw [HS.out.hl];exact hl8) (Nat.le_refl _)] at y0
     have y1:=blk_arr hg j (by rw [HVL.out];exact hl8)
     have y2:=hs.fr j
     have S1:Hid (∀ x,x=add (h.getD j 0) (vv.getD j 0)→IsSt (wr.setCell ⟨p,j,none⟩ (.int .u64 x)) p (sums h vv (j+1)) b n l) :=
      Lib.hid (by rintro x rfl;rw [sums_succ h vv j (by rw [HS.out.hl];exact hl8)];exact hs.set_h j hl8 _)
     have HG:=Lib.hid hg
     have HKP:=Lib.hid hkp
     clear hg hs hkp
     generalize h.getD j 0=hj0 at y0 S1
     generalize vv.getD j 0=vj at y1 S1
     go_wp2_with fail
     go_region
     go_wp2_with fail
     go_roundw
     case rel=>exact ⟨j+1,by omega,by go_num,blk_setCell_ne HG.out _ (by omega),(S1.out _ (flat1 _ _)).drew,(HKP.out.setCell (p:=⟨p,j,none⟩) (.inl rfl) _).drew⟩
     case measure=>simp [intOf];omega
    ·have e8:j=8:=by omega
     rw [e8,HCOMP.out] at hs
     have HSE:=Lib.hid hs
     have HKP:=Lib.hid hkp
     clear e8 hg hs hkp
     go_wp2_with fail
     (try simp only [Exit.jump])
     go_end0
     exact ⟨rfl,HSE.out,HKP.out⟩
end Go.Proofs.YtodnkallpfkdiaaDoor.Hb
namespace Go.Proofs.YtodnkallpfkdiaaDoor.Hb
open Go.RowKit
theorem set_ok {s:S} (h:s.Ok) {x:Int} (hx:0≤x∧x≤255):∀ y∈s.b.set s.n x,0≤y∧y≤255:=by
 intro y hy
 rcases List.mem_or_eq_of_mem_set hy with h1|rfl
 ·exact h.by0 y h1
 ·exact hx
theorem take_any (p:Nat) (s:S) (l x:Int) (w:World) (st:IsSt w p s.h s.b s.n l) (ok:s.Ok) (hx:0≤x∧x≤255) :
  Calls Tryd.prog 158 #[.pointer (some ⟨p,0,none⟩), .int .u8 x] w fun e w'=>e = .returned (.tuple #[])∧IsSt w' p (s.take x).h (s.take x).b (s.take x).n l∧Kept (fun i=>i=p) w w':=by
 have hok:=set_ok ok hx
 obtain ⟨h,b,n⟩:=s
 simp only at st hok ⊢
 have hn:n < 128:=ok.n
 have x0:=st.at_n
 have x1:=st.at_b n hn
 have x2:=st.fr (88+n)
 have x3:=st.fr 216
 have s1:=(st.set_b n hn x).drew
 have k1:Kept (fun i=>i=p) w (w.setCell ⟨p,88+n,none⟩ (.int .u8 x)).drew:=((Kept.refl _ w).at _ _).drew
 by_cases hf:n+1=128
 ·have e1:S.take ⟨h,b,n⟩ x=⟨comp h (b.set n x),b.set n x,0⟩:=by unfold S.take;rw [if_pos hf]
  have f1:(n:Int)+1=128:=by omega
  have E1:=Lib.hid e1
  have F1:=Lib.hid f1
  have ht:=fun w st=>turn_any p h (b.set n x) ((n:Int)+1) l w st hok
  have HT:=Lib.hid ht
  have f2:128≤(n:Int)+1:=by omega
  clear e1 f1 hf ht hok ok
  go_enter Tryd.func158, Tryd.ntmps158
  go_wp2_with fail
  go_region
  generalize (w.setCell ⟨p,88+n,none⟩ (.int .u8 x)).drew=w1 at s1 k1 ⊢
  have y0:=s1.at_n
  have y1:=s1.fr 216
  have S2:=Lib.hid (s1.set_n ((n:Int)+1))
  have K2:=Lib.hid (k1.at 216 (.int .i64 ((n:Int)+1)))
  clear s1 k1 x0 x1 x2 x3
  go_wp2_with (go_at_call 167; refine (HT.out _ S2.out).mono ?_;rintro e w3 ⟨rfl,s3,k3⟩;have z0:=s3.at_n;have z1:=s3.fr 216;have S3:=Lib.hid (s3.set_n 0);have K3:=Lib.hid ((K2.out.trans k3).at 216 (.int .i64 0));clear s3 k3)
  go_end0
  rw [E1.out]
  exact ⟨rfl,S3.out,K3.out⟩
 ·have e1:S.take ⟨h,b,n⟩ x=⟨h,b.set n x,n+1⟩:=by unfold S.take;rw [if_neg hf]
  have E1:=Lib.hid e1
  have f2:(n:Int)+1 < 128:=by omega
  clear e1 hf hok ok
  go_enter Tryd.func158, Tryd.ntmps158
  go_wp2_with fail
  go_region
  generalize (w.setCell ⟨p,88+n,none⟩ (.int .u8 x)).drew=w1 at s1 k1 ⊢
  have y0:=s1.at_n
  have y1:=s1.fr 216
  have S2:=Lib.hid (s1.set_n ((n:Int)+1))
  have K2:=Lib.hid (k1.at 216 (.int .i64 ((n:Int)+1)))
  clear s1 k1 x0 x1 x2 x3
  go_wp2_with fail
  go_end0
  rw [E1.out]
  exact ⟨rfl,by simpa using S2.out,K2.out⟩
end Go.Proofs.YtodnkallpfkdiaaDoor.Hb
namespace Go.Proofs.YtodnkallpfkdiaaDoor.Hb
open Go.RowKit
theorem zeroOut (w:World):(zeroValue 26).run Tryd.prog w = .ok (.agg (arr .u8 (List.replicate 64 0))) w:=by kernel_rfl
theorem sizeOut:(Tryd.prog.info? 26).map (·.size)=some 64:=by kernel_rfl
/-- What holds while bytes are taken in. -/
structure SumR (w wr:World) (p:Nat) (s:S) (T:Int):Prop where
 st:IsSt wr p s.h s.b s.n T
 ok:s.Ok
 res:wr.heap[w.heap.size]? = some (.cells (arr .u8 (List.replicate 64 0)) 26 (0,0))
 below:Below w.heap.size w wr
 ne:w.heap.size < p
theorem SumR.take {w wr w':World} {p:Nat} {s:S} {T x:Int} (h:SumR w wr p s T) (hx:0≤x∧x≤255) (st:IsSt w' p (s.take x).h (s.take x).b (s.take x).n T) (k:Kept (fun i=>i=p) wr w'):SumR w w' p (s.take x) T :=
 ⟨st,h.ok.take x hx,k.blk h.res (by have:=h.ne;omega),h.below.trans (k.toBelow h.below.size (by rintro i rfl;have:=h.ne;omega)),h.ne⟩
theorem SumR.long {w wr:World} {p:Nat} {s:S} {T:Int} (h:SumR w wr p s T) (x:Int):SumR w (wr.setCell ⟨p,217,none⟩ (.int .u64 x)) p s x :=
 ⟨h.st.set_l x,h.ok,blk_setCell_ne h.res _ (by have:=h.ne;omega),h.below.setCell (p:=⟨p,217,none⟩) (by have:=h.ne;show w.heap.size≤p;omega) _,h.ne⟩
theorem SumR.alloc {w wr:World} {p:Nat} {s:S} {T:Int} (h:SumR w wr p s T) (o:Obj):SumR w (wr.alloc o) p s T:=⟨h.st.alloc o,h.ok,blk_alloc h.res o,h.below.alloc h.below.size o,h.ne⟩
theorem SumR.far {w wr:World} {p g:Nat} {s:S} {T:Int} (h:SumR w wr p s T) (i:Nat) (v:Value) (hg:g≠p) (hw:w.heap.size < g):SumR w (wr.setCell ⟨g,i,none⟩ v) p s T :=
 ⟨h.st.kept ((Kept.refl (fun x=>x=g) wr).at i v) (fun e=>hg e.symm),h.ok,blk_setCell_ne h.res _ (by omega),h.below.setCell (p:=⟨g,i,none⟩) (by show w.heap.size≤g;omega) _,h.ne⟩
def zs (n:Nat):Nat:=(2 * 128 - 16 - 1 - n % 128) % 128
theorem tail_eq (n:Nat):tail n=((128 :: List.replicate (zs n) 0) ++ List.replicate (16 - 8) 0) ++ (List.range 8).map fun i=>((8 * n / 2 ^ (8 * (7 - i)) % 256:Nat):Int):=by simp [tail,zs]
theorem byte_wrap (x:Int):0≤IntKind.u8.wrap x∧IntKind.u8.wrap x≤255:=by rw [IntKind.wrap_u8];omega
theorem len_byte (n j:Nat):IntKind.u8.wrap ((n:Int) * 8 / 2 ^ (8 * (7 - j)))=((8 * n / 2 ^ (8 * (7 - j)) % 256:Nat):Int):=by
 rw [IntKind.wrap_u8,Nat.mul_comm 8 n,Int.natCast_emod,Int.natCast_ediv,Int.natCast_mul,Int.natCast_pow]
 rfl
theorem rep_snoc (k:Nat):(128:Int) :: List.replicate (k+1) 0=(128 :: List.replicate k 0) ++ [0]:=by rw [List.replicate_succ',List.cons_append]
theorem dig_set (h:List Int) (i:Nat) (hi:i < 64) (v:Int) (hv:v=(digest h).getD i 0):((digest h).take i ++ List.replicate (64 - i) 0).set i v=(digest h).take (i+1) ++ List.replicate (64 - (i+1)) 0:=by
 have hl:(digest h).length=64:=by simp [digest]
 rw [take_snoc _ i 0 (by omega),← hv,List.set_append_right _ _ (by simp;omega),show 64 - i=(64 - (i+1))+1 by omega,List.replicate_succ]
 simp [hl,Nat.min_eq_left (Nat.le_of_lt hi)]
theorem dig_get (h:List Int) (i:Nat) (hi:i < 64):(digest h).getD i 0=h.getD (i / 8) 0 / 2 ^ (8 * (7 - i % 8)) % 256:=by simp [digest,List.getD,hi]
theorem sum_any (sa:Option Addr) (n c:Nat) (L:List (List Int)) (w:World) (hs:SrcL w sa n L) (hx:∀ l∈L,bytes l) (hN:L.flatten.length≤1152921504606846976) (hn:n≤1099511627776) :
  Calls Tryd.prog 125 #[.slice sa n c] w fun e w'=>e = .returned (.agg (arr .u8 (hash L.flatten)))∧Below w.heap.size w w':=by
 have hres:=blk_new w (.cells (arr .u8 (List.replicate 64 0)) 26)
 have hLn:=hs.len
 have HB:=Lib.hid (fun w=>begin_any w)
 have HT:=Lib.hid (fun p s l x w st ok hx=>take_any p s l x w st ok hx)
 have HRES:=Lib.hid hres
 have HS:=Lib.hid hs
 have HX:=Lib.hid hx
 have HLN:=Lib.hid hLn
 clear hres hs hx hLn
 go_enter Tryd.func125, Tryd.ntmps125
 go_wp2_with (first|((with_reducible refine aS 2 ?_);refine wpList_alloc_row rfl 26 rfl _ (zeroOut _) ?_)|(go_at_call 157; refine (HB.out _).mono ?_;rintro e w1 ⟨p,rfl,st1,hp1,hb1⟩))
 have hR0:SumR w w1 p S.new 0:=⟨st1,S.Ok.new,Below.blk hb1 HRES.out (by simp),((Below.refl _ w).alloc (Nat.le_refl _) _).trans (hb1.mono (by simp)),by simp at hp1;omega⟩
 have HR0:=Lib.hid hR0
 clear hR0 st1 hp1 hb1
 go_loopw [14] (fun i wr=>∃ j:Nat,j≤n∧i = .int .i64 j∧SumR w wr p (S.new.all (L.take j).flatten) ((L.take j).flatten.length:Int)) (fun i _=>n - (intOf i).toNat)
 case atStart=>exact ⟨0,Nat.zero_le _,rfl,HR0.out⟩
 case round =>
  obtain ⟨j,hj,rfl,hR⟩:=hrel
  obtain ⟨wo,rfl⟩:∃ wo:World,wo=wr:=⟨_,rfl⟩
  by_cases hlt:j < n
  ·obtain ⟨a,si,ci,rfl,hc,hlc,hsi⟩:=HS.out.cell j hlt
   have x1:=below_cell hR.below hc
   have hfl:=flat_le L j (by rw [HLN.out];exact hlt)
   have hbl:bytes (L.getD j []):=by
    have hjl:j < L.length:=by rw [HLN.out];exact hlt
    simp only [List.getD,List.getElem?_eq_getElem hjl,Option.getD_some]
    exact HX.out _ (List.getElem_mem hjl)
   have HFS:=Lib.hid (flat_snoc L j (by rw [HLN.out];exact hlt))
   obtain ⟨T,hT⟩:∃ T,T=(L.take j).flatten.length:=⟨_,rfl⟩
   obtain ⟨s0,hs0⟩:∃ s0,s0=S.new.all (L.take j).flatten:=⟨_,rfl⟩
   rw [← hT,← hs0] at hR
   rw [← hT] at hfl
   have HTT:=Lib.hid hT
   have HS0:=Lib.hid hs0
   clear hT hs0
   generalize L.getD j []=l at x1 hfl hbl HFS hsi hlc
   obtain ⟨m,hm⟩:∃ m,m=l.length:=⟨_,rfl⟩
   rw [← hm] at x1 hfl hsi hlc
   have HM:=Lib.hid hm
   have HR:=Lib.hid hR
   have HSI:=Lib.hid hsi
   have HBL:=Lib.hid hbl
   clear hm hR hsi hbl hc
   go_wp2_with fail
   go_loopw [20] (fun i wr=>∃ k:Nat,k≤m∧i = .int .i64 k∧SumR w wr p (s0.all (l.take k)) T) (fun i _=>m - (intOf i).toNat)
   case atStart=>exact ⟨0,Nat.zero_le _,rfl,HR.out⟩
   case round =>
    obtain ⟨k,hk,rfl,hR⟩:=hrel
    by_cases hlt2:k < m
    ·obtain ⟨ad,rfl,hcc⟩:=HSI.out.cell k hlt2
     have x2:=below_cell hR.below hcc
     have hby:=bytes_at HBL.out k
     have HTS:=Lib.hid (take_snoc l k 0 (by rw [← HM.out];exact hlt2))
     have HR2:=Lib.hid hR
     have HBY:=Lib.hid hby
     clear hR hcc hby
     generalize l.getD k 0=x at x2 HTS HBY
     go_wp2_with (go_at_call 158; refine (HT.out _ _ _ _ _ HR2.out.st HR2.out.ok HBY.out).mono ?_;rintro e w5 ⟨rfl,st5,k5⟩;have HR5:=Lib.hid (HR2.out.take HBY.out st5 k5);clear st5 k5)
     go_roundw
     case rel=>exact ⟨k+1,by omega,by go_num,by rw [HTS.out,S.all_snoc];exact HR5.out⟩
     case measure=>simp [intOf];omega
    ·have ek:k=m:=by omega
     rw [ek,HM.out,List.take_length] at hR
     have y0:=hR.st.at_l
     have y1:=hR.st.fr 217
     have HR3:=Lib.hid (hR.long ((T:Int)+(m:Int)))
     clear ek hR
     go_wp2_with fail
     go_roundw
     case rel =>
      refine ⟨j+1,by omega,by go_num,?_⟩
      rw [HFS.out,S.all_append,← HS0.out,List.length_append,← HTT.out,← HM.out]
      simpa using HR3.out
     case measure=>simp [intOf];omega
  ·have ej:L.take j=L:=List.take_of_length_le (by rw [HLN.out];omega)
   rw [ej] at hR
   obtain ⟨m,hm⟩:∃ m,m=L.flatten:=⟨_,rfl⟩
   rw [← hm] at hR hN
   have HMM:=Lib.hid hm
   have HR:=Lib.hid hR
   clear ej hR hm
   go_wp2_with (go_at_call 158; refine (HT.out _ _ _ _ _ HR.out.st HR.out.ok ⟨by omega,by omega⟩).mono ?_;rintro e w5 ⟨rfl,st5,k5⟩;have HR5:=Lib.hid (HR.out.take ⟨by omega,by omega⟩ st5 k5);clear st5 k5)
   go_loopg [] (zs m.length) (fun g wr=>∃ k:Nat,g+k=zs m.length∧SumR w wr p (S.new.all (m ++ (128 :: List.replicate k 0))) (m.length:Int))
   case atStart=>exact ⟨0,by omega,by rw [List.replicate_zero,S.all_snoc];exact HR5.out⟩
   case round =>
    obtain ⟨k,hk,hR⟩:=hrel
    obtain ⟨wo3,rfl⟩:∃ wo3:World,wo3=wr:=⟨_,rfl⟩
    have hnn:(S.new.all (m ++ (128 :: List.replicate k 0))).n=(m.length+1+k) % 128:=by
     rw [S.all_n _ _ S.Ok.new.n]
     simp [S.new]
     omega
    have hzs:zs m.length=(2 * 128 - 16 - 1 - m.length % 128) % 128:=rfl
    have y0:=hR.st.at_n
    by_cases hlt:k < zs m.length
    ·have t1:(((S.new.all (m ++ (128 :: List.replicate k 0))).n:Int) == 112)=false:=by rw [hnn];simp;omega
     have t2:(((S.new.all (m ++ (128 :: List.replicate k 0))).n:Int) != 112)=true:=by rw [hnn];simp;omega
     have HR2:=Lib.hid hR
     clear hR hnn hzs
     generalize (((S.new.all (m ++ (128 :: List.replicate k 0))).n:Nat):Int)=nn at y0 t1 t2
     go_wp2_with (go_at_call 158; refine (HT.out _ _ _ _ _ HR2.out.st HR2.out.ok ⟨by omega,by omega⟩).mono ?_;rintro e w6 ⟨rfl,st6,k6⟩;have HR6:=Lib.hid (HR2.out.take ⟨by omega,by omega⟩ st6 k6);clear st6 k6)
     go_roundg (gk - 1)
     case measure=>omega
     case rel=>exact ⟨k+1,by omega,by rw [rep_snoc,← List.append_assoc,S.all_snoc];exact HR6.out⟩
    ·have ek:k=zs m.length:=by omega
     have t1:(((S.new.all (m ++ (128 :: List.replicate k 0))).n:Int) == 112)=true:=by rw [hnn];simp;omega
     have t2:(((S.new.all (m ++ (128 :: List.replicate k 0))).n:Int) != 112)=false:=by rw [hnn];simp;omega
     obtain ⟨m1,hm1⟩:∃ m1,m1=m ++ (128 :: List.replicate k 0):=⟨_,rfl⟩
     rw [← hm1] at hR y0 t1 t2
     rw [ek] at hm1
     have HM1:=Lib.hid hm1
     have HR2:=Lib.hid hR
     clear hR hnn hzs hm1 ek
     generalize (((S.new.all m1).n:Nat):Int)=nn at y0 t1 t2
     go_wp2_with fail
     go_loopw [48] (fun i wr=>∃ k4:Nat,k4≤8∧i = .int .i64 k4∧SumR w wr p (S.new.all (m1 ++ List.replicate k4 0)) (m.length:Int)) (fun i _=>8 - (intOf i).toNat)
     case atStart=>exact ⟨0,Nat.zero_le _,rfl,by rw [List.replicate_zero,List.append_nil];exact HR2.out⟩
     case round =>
      obtain ⟨k4,hk4,rfl,hR⟩:=hrel
      have HR3:=Lib.hid hR
      clear hR
      by_cases hlt4:k4 < 8
      ·go_wp2_with (go_at_call 158; refine (HT.out _ _ _ _ _ HR3.out.st HR3.out.ok ⟨by omega,by omega⟩).mono ?_;rintro e w6 ⟨rfl,st6,k6⟩;have HR6:=Lib.hid (HR3.out.take ⟨by omega,by omega⟩ st6 k6);clear st6 k6)
       go_roundw
       case rel=>exact ⟨k4+1,by omega,by go_num,by rw [List.replicate_succ',← List.append_assoc,S.all_snoc];exact HR6.out⟩
       case measure=>simp [intOf];omega
      ·obtain ⟨wo4,rfl⟩:∃ wo4:World,wo4=wr:=⟨_,rfl⟩
       obtain ⟨m2,hm2⟩:∃ m2,m2=m1 ++ List.replicate k4 0:=⟨_,rfl⟩
       rw [← hm2] at HR3
       rw [show k4=16 - 8 by omega,HM1.out] at hm2
       have HM2:=Lib.hid hm2
       clear hm2
       go_wp2_with fail
       go_loopw [8] (fun i wr=>∃ j5:Nat,j5≤8∧i = .int .i64 (7 - (j5:Int))∧SumR w wr p (S.new.all (m2 ++ (List.range j5).map fun i=>((8 * m.length / 2 ^ (8 * (7 - i)) % 256:Nat):Int))) (m.length:Int)) (fun i _=>(1+intOf i).toNat)
       case atStart=>exact ⟨0,Nat.zero_le _,rfl,by simpa using HR3.out⟩
       case round =>
        obtain ⟨j5,hj5,rfl,hR⟩:=hrel
        by_cases hlt5:j5 < 8
        ·have y1:=hR.st.at_l
         have HR4:=Lib.hid hR
         have e1:(8 * (7 - (j5:Int))).toNat=8 * (7 - j5):=by omega
         have e2:0≤8 * (7 - (j5:Int)):=by omega
         have e3:8 * (7 - (j5:Int))≤56:=by omega
         clear hR
         go_wp2_with (go_at_call 158; refine (HT.out _ _ _ _ _ HR4.out.st HR4.out.ok (byte_wrap _)).mono ?_;rintro e w6 ⟨rfl,st6,k6⟩;have HR6:=Lib.hid (HR4.out.take (byte_wrap _) st6 k6);clear st6 k6)
         clear e1 e2 e3
         go_roundw
         case rel=>exact ⟨j5+1,by omega,by go_num,by rw [List.range_succ,List.map_append,← List.append_assoc,List.map_singleton,S.all_snoc,← len_byte];exact HR6.out⟩
         case measure=>simp [intOf];omega
        ·obtain ⟨wo5,rfl⟩:∃ wo5:World,wo5=wr:=⟨_,rfl⟩
         have e5:m2 ++ ((List.range j5).map fun i=>((8 * m.length / 2 ^ (8 * (7 - i)) % 256:Nat):Int))=m ++ tail m.length:=by
          rw [show j5=8 by omega,tail_eq,HM2.out]
          simp only [List.append_assoc]
         rw [e5] at hR
         have hh:hash m=digest (S.new.all (m ++ tail m.length)).h:=rfl
         generalize S.new.all (m ++ tail m.length)=sf at hR hh
         have HR7:=Lib.hid hR
         have HH:=Lib.hid hh
         clear hR e5 hh
         go_wp2_with ((with_reducible refine aS 9 ?_);refine wpList_alloc_row rfl 26 rfl _ (zeroOut _) ?_)
         have hl5:=HR7.out.below.size
         have hpl:=blk_lt HR7.out.st.blk
         have hwp:=HR7.out.ne
         have hR8:SumR w (wo5.alloc (.cells (arr .u8 (List.replicate 64 0)) 26)) p sf (m.length:Int):=HR7.out.alloc _
         have hb9:(wo5.alloc (.cells (arr .u8 (List.replicate 64 0)) 26)).heap[wo5.heap.size]? = some (.cells (arr .u8 ((digest sf.h).take 0 ++ List.replicate (64 - 0) 0)) 26 (0,0)):=blk_new _ _
         have HR8:=Lib.hid hR8
         have HB9:=Lib.hid hb9
         clear hR8 hb9
         go_loopw [68] (fun i wr=>∃ i9:Nat,i9≤64∧i = .int .i64 i9∧wr.heap[wo5.heap.size]? = some (.cells (arr .u8 ((digest sf.h).take i9 ++ List.replicate (64 - i9) 0)) 26 (0,0))∧SumR w wr p sf (m.length:Int)) (fun i _=>64 - (intOf i).toNat)
         case atStart=>exact ⟨0,Nat.zero_le _,rfl,HB9.out,HR8.out⟩
         case round =>
          obtain ⟨i9,hi9,rfl,hb,hR⟩:=hrel
          have hdl:(digest sf.h).length=64:=by simp [digest]
          by_cases hlt9:i9 < 64
          ·have y0:=hR.st.at_h (i9 / 8) (by omega)
           have y1:=blk_arr hb i9 (by simp [hdl];omega)
           have y2:=free_blk hb i9
           have G1:Hid (∀ v,v=sf.h.getD (i9 / 8) 0 / 2 ^ (8 * (7 - i9 % 8)) % 256→(wr.setCell ⟨wo5.heap.size,i9,none⟩ (.int .u8 v)).heap[wo5.heap.size]? = some (.cells (arr .u8 ((digest sf.h).take (i9+1) ++ List.replicate (64 - (i9+1)) 0)) 26 (0,0))):=Lib.hid (by
            rintro v rfl
            rw [blk_arr_set hb,dig_set sf.h i9 hlt9 _ (dig_get sf.h i9 hlt9).symm])
           have HRS:=Lib.hid (fun v=>hR.far (g:=wo5.heap.size) i9 v (by omega) (by omega))
           have e1:(56 - 8 * ((i9:Int) % 8)).toNat=8 * (7 - i9 % 8):=by omega
           have e2:0≤56 - 8 * ((i9:Int) % 8):=by omega
           have e3:56 - 8 * ((i9:Int) % 8)≤56:=by omega
           clear hb hR hdl
           generalize sf.h.getD (i9 / 8) 0=x at y0 G1
           go_wp2_with fail
           clear e1 e2 e3
           go_roundw
           case rel=>exact ⟨i9+1,by omega,by go_num,G1.out _ (IntKind.wrap_u8 _),HRS.out _⟩
           case measure=>simp [intOf];omega
          ·rw [show i9=64 by omega,Nat.sub_self,List.replicate_zero,List.append_nil,List.take_of_length_le (by omega)] at hb
           have z1:(Tryd.prog.info? 26).map (·.size)=some (digest sf.h).length:=by rw [hdl];exact sizeOut
           have z2:(Tryd.prog.info? 26).map (·.size)=some (arr .u8 (digest sf.h)).size:=by rw [arr_size,hdl];exact sizeOut
           have z3:(arr .u8 (digest sf.h)).size=(arr .u8 (List.replicate 64 0)).size:=by rw [arr_size,arr_size,hdl,List.length_replicate]
           have z4:((arr .u8 (digest sf.h)).toList.drop 0).take (digest sf.h).length=(digest sf.h).map (Value.int .u8):=by rw [arr_toList,List.drop_zero,List.take_of_length_le (by simp)]
           have HB:=Lib.hid hb
           have HRE:=Lib.hid hR
           have Z1:=Lib.hid z1
           have Z2:=Lib.hid z2
           have Z3:=Lib.hid z3
           have Z4:=Lib.hid z4
           clear hb hR z1 z2 z3 z4 hdl
           go_wp2_with (first|((with_reducible refine aS 87 ?_);refine wpList_load_part rfl 26 _ rfl wo5.heap.size 0 _ 26 (0,0) _ HB.out rfl .u8 (digest sf.h) Z4.out Tryd.underlying26 rfl Z1.out ?_)|((with_reducible show wpList _ _ _ (Oper.mk none _ _ _ _ _ :: _) _ _);refine wpList_store_whole rfl 26 _ _ rfl w.heap.size _ _ 26 HRE.out.res rfl rfl Z3.out Z2.out (all_arr _ _) ?_;intro w7 hb7 hk7 hz7;have HB7:=Lib.hid hb7;have HK7:=Lib.hid hk7;clear hb7 hk7 hz7))
           (try simp only [Exit.inBlock,Exit.then])
           refine bodyPost_ret (results_cell_row rfl _ _ w.heap.size 26 _ (0,0) _ rfl HB7.out Tryd.underlying26 rfl Z2.out) rfl ?_
           rw [← HMM.out,HH.out]
           exact ⟨rfl,HRE.out.below.trans (HK7.out.toBelow HRE.out.below.size (by rintro i rfl;exact Nat.le_refl _))⟩
end Go.Proofs.YtodnkallpfkdiaaDoor.Hb
