/- The hash of sha in plain words: sha: sha.schedule. Condition: as each theorem says. -/
import Derived.BigRegion
import Derived.Deep.LoopGhost
import Derived.ScopeJumps
import Derived.StillTailTactics
import Derived.Test.YthdgbgleklkaiaaDoorQb01
open Go.Lib renaming hid→acD
open List renaming replicate→acE,length_map→acF,getElem?_append_right→acG,range→acH,getD→acI,length_set→acJ,set_append_right→acK,ext_getElem→acL,foldl_append→acM,getElem?_toArray→acN,getElem?_append_left→acP,map_set→acQ,getElem_map→acR,getElem_set→acS,range_succ→acT,set_append_left→acU,length_replicate→acV
open Nat renaming le_refl→acO
set_option linter.unusedSimpArgs false
set_option linter.unusedVariables false
set_option maxRecDepth 100000
set_option maxHeartbeats 16000000
namespace Go.Proofs.YthdgbgleklkaiaaDoor.Ha
open Go.RowKit
def K:List Int:=[1116352408,1899447441,3049323471,3921009573,961987163,1508970993,2453635748,2870763221,3624381080,310598401,607225278,1426881987,1925078388,2162078206,2614888103,3248222580,3835390401,4022224774,264347078,604807628,770255983,1249150122,1555081692,1996064986,2554220882,2821834349,2952996808,3210313671,3336571891,3584528711,113926993,338241895,666307205,773529912,1294757372,1396182291,1695183700,1986661051,2177026350,2456956037,2730485921,2820302411,3259730800,3345764771,3516065817,3600352804,4094571909,275423344,430227734,506948616,659060556,883997877,958139571,1322822218,1537002063,1747873779,1955562222,2024104815,2227730452,2361852424,2428436474,2756734187,3204031479,3329325298]
def H0:List Int:=[1779033703,3144134277,1013904242,2773480762,1359893119,2600822924,528734635,1541459225]
def eu (x n m:Int):Int:=bits .or .u32 (IntKind.u32.wrap (x * m)) (x / n)
def add (x y:Int):Int:=IntKind.u32.wrap (x+y)
def s0 (x:Int):Int:=bits .xor .u32 (bits .xor .u32 (eu x 128 33554432) (eu x 262144 16384)) (x / 8)
def s1 (x:Int):Int:=bits .xor .u32 (bits .xor .u32 (eu x 131072 32768) (eu x 524288 8192)) (x / 1024)
def e1 (x:Int):Int:=bits .xor .u32 (bits .xor .u32 (eu x 64 67108864) (eu x 2048 2097152)) (eu x 33554432 128)
def e0 (x:Int):Int:=bits .xor .u32 (bits .xor .u32 (eu x 4 1073741824) (eu x 8192 524288)) (eu x 4194304 1024)
def ch (e f g:Int):Int:=bits .xor .u32 (bits .and .u32 e f) (bits .and .u32 (bits .xor .u32 (if IntKind.u32.signed=true then -1 else IntKind.u32.max) e) g)
def maj (a b c:Int):Int:=bits .xor .u32 (bits .xor .u32 (bits .and .u32 a b) (bits .and .u32 a c)) (bits .and .u32 b c)
def tx (k w:Int) (v:List Int):Int:=add (add (add (add (v.getD 7 0) (e1 (v.getD 4 0))) (ch (v.getD 4 0) (v.getD 5 0) (v.getD 6 0))) k) w
def ty (v:List Int):Int:=add (e0 (v.getD 0 0)) (maj (v.getD 0 0) (v.getD 1 0) (v.getD 2 0))
def RX (k w:Int) (v:List Int):List Int:=[add (tx k w v) (ty v),v.getD 0 0,v.getD 1 0,v.getD 2 0,add (v.getD 3 0) (tx k w v),v.getD 4 0,v.getD 5 0,v.getD 6 0]
def next (ws:List Int) (t:Nat):Int:=add (add (add (s1 (ws.getD (t - 2) 0)) (ws.getD (t - 7) 0)) (s0 (ws.getD (t - 15) 0))) (ws.getD (t - 16) 0)
def part (b:List Int) (o:Nat):Nat→Int
 | 0=>0
 | n+1=>bits .or .u32 (IntKind.u32.wrap (part b o n * 256)) (b.getD (o+n) 0)
def pre (b:List Int) (i:Nat):List Int:=(acH 64).map fun j=>part b (4 * j) (min 4 (i - 4 * j))
def sched (b:List Int) (n:Nat):List Int:=(acH n).foldl (fun ws j=>ws.set (16+j) (next ws (16+j))) (pre b 64)
def rounds (ws h:List Int) (n:Nat):List Int:=(acH n).foldl (fun v t=>RX (K.getD t 0) (ws.getD t 0) v) h
def sums (h v:List Int) (n:Nat):List Int:=h.mapIdx fun i x=>if i < n then add x (v.getD i 0) else x
def comp (h b:List Int):List Int:=sums h (rounds (sched b 48) h 64) 8
theorem yC (b:List Int) (i:Nat):(pre b i).length=64:=by simp [pre]
theorem jU (b:List Int):pre b 0=acE 64 0:=by
 unfold pre
 apply acL
 ·simp
 ·intro i h1 h2
  rw [List.getElem_replicate,acR,Nat.zero_sub,Nat.min_zero]
  rfl
theorem ES (b:List Int) (i j:Nat) (hj:j < 64):(pre b i).getD j 0=part b (4 * j) (min 4 (i - 4 * j)):=by simp [pre,acI,hj]
theorem zT (b:List Int) (i:Nat) (hi:i < 64):pre b (i+1)=(pre b i).set (i / 4) (bits .or .u32 (IntKind.u32.wrap ((pre b i).getD (i / 4) 0 * 256)) (b.getD i 0)):=by
 rw [ES _ _ _ (by omega)]
 apply acL
 ·simp [pre]
 ·intro j h1 h2
  simp only [pre,acF,List.length_range] at h1
  rw [acS]
  simp only [pre,acR,List.getElem_range]
  by_cases e:i / 4=j
  ·subst e
   rw [if_pos rfl,show min 4 (i+1 - 4 * (i / 4))=i % 4+1 by omega,show min 4 (i - 4 * (i / 4))=i % 4 by omega,part,show 4 * (i / 4)+i % 4=i by omega]
  ·rw [if_neg e]
   congr 1
   omega
theorem jG (b:List Int) (n:Nat):sched b (n+1)=(sched b n).set (16+n) (next (sched b n) (16+n)):=by simp [sched,acT,acM]
theorem gU (b:List Int) (n:Nat):(sched b n).length=64:=by
 induction n with
 | zero=>simp [sched,pre]
 | succ n ih=>rw [jG,acJ,ih]
theorem rounds_succ (ws h:List Int) (n:Nat):rounds ws h (n+1)=RX (K.getD n 0) (ws.getD n 0) (rounds ws h n):=by simp [rounds,acT,acM]
theorem gL (ws h:List Int) (hh:h.length=8) (n:Nat):(rounds ws h n).length=8:=by
 cases n with
 | zero=>simpa [rounds] using hh
 | succ n=>rw [rounds_succ];rfl
theorem mM (h v:List Int):sums h v 0=h:=by
 unfold sums
 apply acL <;> simp
theorem zD (h v:List Int) (n:Nat):(sums h v n).length=h.length:=by simp [sums]
theorem pF (h v:List Int) (n i:Nat) (hi:i < h.length) (hn:n≤i):(sums h v n).getD i 0=h.getD i 0:=by
 simp [sums,acI,hi]
 omega
theorem mO (h v:List Int) (n:Nat) (_hn:n < h.length):sums h v (n+1)=(sums h v n).set n (add (h.getD n 0) (v.getD n 0)):=by
 apply acL
 ·simp [sums]
 ·intro i h1 h2
  simp only [sums,List.length_mapIdx] at h1
  rw [acS]
  simp only [sums,List.getElem_mapIdx]
  by_cases e:n=i
  ·subst e
   rw [if_pos (by omega),if_pos rfl]
   simp [acI,h1]
  ·rw [if_neg e]
   by_cases e2:i < n
   ·rw [if_pos (by omega),if_pos e2]
   ·rw [if_neg (by omega),if_neg e2]
theorem qy (h b:List Int):(comp h b).length=h.length:=zD _ _ _
theorem xH:K.length=64:=by decide
structure S where
 h:List Int
 b:List Int
 n:Nat
def S.take (s:S) (x:Int):S:=if s.n+1=64 then ⟨comp s.h (s.b.set s.n x),s.b.set s.n x,0⟩ else ⟨s.h,s.b.set s.n x,s.n+1⟩
def S.all (s:S) (xs:List Int):S:=xs.foldl S.take s
def S.new:S:=⟨H0,acE 64 0,0⟩
def tail (n:Nat):List Int:=128 :: acE ((2 * 64 - 8 - 1 - n % 64) % 64) 0 ++ acE (8 - 8) 0 ++ (acH 8).map fun i=>((8 * n / 2 ^ (8 * (7 - i)) % 256:Nat):Int)
def digest (h:List Int):List Int:=(acH 32).map fun i=>h.getD (i / 4) 0 / 2 ^ (8 * (3 - i % 4)) % 256
def hash (m:List Int):List Int:=digest ((S.new.all (m ++ tail m.length)).h)
theorem dS (m:List Int):(hash m).length=32:=by simp [hash,digest]
structure S.Ok (s:S):Prop where
 h:s.h.length=8
 b:s.b.length=64
 n:s.n < 64
 by0:∀ x∈s.b,0≤x∧x≤255
theorem S.Ok.take {s:S} (h:s.Ok) (x:Int) (hx:0≤x∧x≤255):(s.take x).Ok:=by
 have hn:=h.n
 have hb:∀ y∈s.b.set s.n x,0≤y∧y≤255:=by
  intro y hy
  rcases List.mem_or_eq_of_mem_set hy with h1|rfl
  ·exact h.by0 y h1
  ·exact hx
 unfold S.take
 split
 ·exact ⟨(qy _ _).trans h.h,by rw [acJ];exact h.b,by show 0 < _;omega,hb⟩
 ·exact ⟨h.h,by rw [acJ];exact h.b,by show s.n+1 < _;omega,hb⟩
theorem S.Ok.all {s:S} (h:s.Ok):∀ (xs:List Int),(∀ x∈xs,0≤x∧x≤255)→(s.all xs).Ok:=by
 intro xs
 induction xs generalizing s with
 | nil=>intro _;exact h
 | cons x xs ih=>intro hx;exact ih (h.take x (hx x (by simp))) fun y hy=>hx y (by simp [hy])
theorem S.Ok.new:S.new.Ok:=by
 refine ⟨rfl,by simp [S.new],by simp [S.new],?_⟩
 intro x hx
 have:=List.eq_of_mem_replicate hx
 omega
theorem S.zw (s:S) (h:s.n < 64) (x:Int):(s.take x).n=(s.n+1) % 64:=by
 unfold S.take
 split
 ·rename_i e;rw [e]
 ·show s.n+1=_;omega
theorem S.Eh:∀ (xs:List Int) (s:S),s.n < 64→(s.all xs).n=(s.n+xs.length) % 64
 | [],s,h=>by show s.n=_;simp;omega
 | x :: xs,s,h=>by
  have h1:(s.take x).n < 64:=by rw [S.zw s h];omega
  have:=S.Eh xs (s.take x) h1
  show ((s.take x).all xs).n=_
  rw [this,S.zw s h,List.length_cons]
  omega
theorem S.all_append (s:S) (xs ys:List Int):s.all (xs ++ ys)=(s.all xs).all ys:=by simp [S.all,acM]
theorem S.jw (s:S) (xs:List Int) (x:Int):s.all (xs ++ [x])=(s.all xs).take x:=by simp [S.all,acM]
end Go.Proofs.YthdgbgleklkaiaaDoor.Ha
namespace Go.Proofs.YthdgbgleklkaiaaDoor.Ha
open Go.RowKit
def xU (h b:List Int) (n l:Int):Array Value:=(h.map (Value.int .u32) ++ (K.map (Value.int .u32) ++ (b.map (Value.int .u8) ++ [Value.int .i64 n,Value.int .u64 l]))).toArray
structure dY (w:World) (p:Nat) (h b:List Int) (n l:Int):Prop where
 blk:w.heap[p]? = some (.cells (xU h b n l) 88 (0,0))
 hl:h.length=8
 bl:b.length=64
theorem dY.fr {w:World} {p:Nat} {h b:List Int} {n l:Int} (s:dY w p h b n l) (o:Nat):w.frozen? ⟨p,o,none⟩=false:=aC s.blk o
theorem dY.kept {T:Nat→Prop} {w w':World} {p:Nat} {h b:List Int} {n l:Int} (s:dY w p h b n l) (k:Kept T w w') (hp:¬ T p):dY w' p h b n l:=⟨k.blk s.blk hp,s.hl,s.bl⟩
theorem dY.below {w w':World} {p:Nat} {h b:List Int} {n l:Int} (s:dY w p h b n l) (k:Below w.heap.size w w'):dY w' p h b n l:=⟨Below.blk k s.blk (aO s.blk),s.hl,s.bl⟩
theorem dY.drewN {w:World} {p:Nat} {h b:List Int} {n l:Int} (s:dY w p h b n l) (k:Nat):dY (w.drewN k) p h b n l:=⟨s.blk,s.hl,s.bl⟩
theorem dY.drew {w:World} {p:Nat} {h b:List Int} {n l:Int} (s:dY w p h b n l):dY w.drew p h b n l:=⟨s.blk,s.hl,s.bl⟩
theorem dY.alloc {w:World} {p:Nat} {h b:List Int} {n l:Int} (s:dY w p h b n l) (o:Obj):dY (w.alloc o) p h b n l:=⟨aY s.blk o,s.hl,s.bl⟩
theorem KP (k:IntKind) (xs:List Int) (i:Nat) (hi:i < xs.length):(xs.map (Value.int k))[i]? = some (.int k (xs.getD i 0)):=by simp [acI,hi]
theorem stC_h {h b:List Int} (n l:Int) (hl:h.length=8) (i:Nat) (hi:i < 8):(xU h b n l)[i]? = some (.int .u32 (h.getD i 0)):=by
 unfold xU
 rw [acN,acP (by simp;omega),KP _ _ _ (by omega)]
theorem stC_k {h b:List Int} (n l:Int) (hl:h.length=8) (i:Nat) (hi:i < 64):(xU h b n l)[8+i]? = some (.int .u32 (K.getD i 0)):=by
 unfold xU
 have kl:=xH
 rw [acN,acG (by simp;omega),acP (by simp;omega),acF,hl,Nat.add_sub_cancel_left,KP _ _ _ (by omega)]
theorem stC_b {h b:List Int} (n l:Int) (hl:h.length=8) (bl:b.length=64) (i:Nat) (hi:i < 64):(xU h b n l)[72+i]? = some (.int .u8 (b.getD i 0)):=by
 unfold xU
 have kl:=xH
 rw [acN,acG (by simp;omega),acG (by simp;omega),acP (by simp;omega),acF,acF,hl,kl,show 72+i - 8 - 64=i by omega,KP _ _ _ (by omega)]
theorem stC_n {h b:List Int} (n l:Int) (hl:h.length=8) (bl:b.length=64):(xU h b n l)[136]? = some (.int .i64 n)∧(xU h b n l)[137]? = some (.int .u64 l):=by
 unfold xU
 have kl:=xH
 constructor <;> rw [acN,acG (by simp;omega),acG (by simp;omega),acG (by simp;omega)] <;> simp [hl,kl,bl]
theorem zG (h b:List Int) (n l:Int):(xU h b n l).toList=h.map (Value.int .u32) ++ (K.map (Value.int .u32) ++ (b.map (Value.int .u8) ++ [Value.int .i64 n,Value.int .u64 l])):=rfl
theorem RD (cs:List Value) (i:Nat) (v:Value):cs.toArray.setIfInBounds i v=(cs.set i v).toArray:=by simp
theorem Vr {h b:List Int} (n l:Int) (hl:h.length=8) (i:Nat) (hi:i < 8) (x:Int):(xU h b n l).setIfInBounds i (.int .u32 x)=xU (h.set i x) b n l:=by
 unfold xU
 rw [RD,acU _ _ (by simp;omega),acQ]
theorem Vs {h b:List Int} (n l:Int) (hl:h.length=8) (bl:b.length=64) (i:Nat) (hi:i < 64) (x:Int):(xU h b n l).setIfInBounds (72+i) (.int .u8 x)=xU h (b.set i x) n l:=by
 unfold xU
 have kl:=xH
 rw [RD,acK _ _ (by simp;omega),acK _ _ (by simp;omega),acU _ _ (by simp;omega),acQ,acF,acF,hl,kl,show 72+i - 8 - 64=i by omega]
theorem Hq {h b:List Int} (n l:Int) (hl:h.length=8) (bl:b.length=64) (x:Int):(xU h b n l).setIfInBounds 136 (.int .i64 x)=xU h b x l∧(xU h b n l).setIfInBounds 137 (.int .u64 x)=xU h b n x:=by
 unfold xU
 have kl:=xH
 constructor <;> rw [RD,acK _ _ (by simp;omega),acK _ _ (by simp;omega),acK _ _ (by simp;omega)] <;> simp [hl,kl,bl]
theorem dY.at_h {w:World} {p:Nat} {h b:List Int} {n l:Int} (s:dY w p h b n l) (i:Nat) (hi:i < 8):w.cell? ⟨p,i,none⟩=some (.int .u32 (h.getD i 0)):=by rw [aF s.blk,stC_h n l s.hl i hi]
theorem dY.at_k {w:World} {p:Nat} {h b:List Int} {n l:Int} (s:dY w p h b n l) (i:Nat) (hi:i < 64):w.cell? ⟨p,8+i,none⟩=some (.int .u32 (K.getD i 0)):=by rw [aF s.blk,stC_k n l s.hl i hi]
theorem dY.at_b {w:World} {p:Nat} {h b:List Int} {n l:Int} (s:dY w p h b n l) (i:Nat) (hi:i < 64):w.cell? ⟨p,72+i,none⟩=some (.int .u8 (b.getD i 0)):=by rw [aF s.blk,stC_b n l s.hl s.bl i hi]
theorem dY.abR {w:World} {p:Nat} {h b:List Int} {n l:Int} (s:dY w p h b n l):w.cell? ⟨p,136,none⟩=some (.int .i64 n):=by rw [aF s.blk,(stC_n n l s.hl s.bl).1]
theorem dY.at_l {w:World} {p:Nat} {h b:List Int} {n l:Int} (s:dY w p h b n l):w.cell? ⟨p,137,none⟩=some (.int .u64 l):=by rw [aF s.blk,(stC_n n l s.hl s.bl).2]
theorem dY.set_h {w:World} {p:Nat} {h b:List Int} {n l:Int} (s:dY w p h b n l) (i:Nat) (hi:i < 8) (x:Int):dY (w.setCell ⟨p,i,none⟩ (.int .u32 x)) p (h.set i x) b n l :=
 ⟨by rw [bq s.blk,Vr n l s.hl i hi],by rw [acJ];exact s.hl,s.bl⟩
theorem dY.set_b {w:World} {p:Nat} {h b:List Int} {n l:Int} (s:dY w p h b n l) (i:Nat) (hi:i < 64) (x:Int):dY (w.setCell ⟨p,72+i,none⟩ (.int .u8 x)) p h (b.set i x) n l :=
 ⟨by rw [bq s.blk,Vs n l s.hl s.bl i hi],s.hl,by rw [acJ];exact s.bl⟩
theorem dY.Vz {w:World} {p:Nat} {h b:List Int} {n l:Int} (s:dY w p h b n l) (x:Int):dY (w.setCell ⟨p,136,none⟩ (.int .i64 x)) p h b x l :=
 ⟨by rw [bq s.blk,(Hq n l s.hl s.bl x).1],s.hl,s.bl⟩
theorem dY.set_l {w:World} {p:Nat} {h b:List Int} {n l:Int} (s:dY w p h b n l) (x:Int):dY (w.setCell ⟨p,137,none⟩ (.int .u64 x)) p h b n x :=
 ⟨by rw [bq s.blk,(Hq n l s.hl s.bl x).2],s.hl,s.bl⟩
theorem rl_2 (x:Int) (w:World):Calls Tryd.prog 80 #[.int .u32 x, .int .i64 (-2)] w fun e w'=>e = .returned (.int .u32 (eu x 4 1073741824))∧w=w':=by
 have hb:bits .and .u64 (IntKind.u64.wrap (-2)) 31=30:=by decide +kernel
 go_enter Tryd.func80, Tryd.ntmps80
 go_wp2
 go_ret
 exact ⟨rfl,rfl⟩
theorem rl_6 (x:Int) (w:World):Calls Tryd.prog 80 #[.int .u32 x, .int .i64 (-6)] w fun e w'=>e = .returned (.int .u32 (eu x 64 67108864))∧w=w':=by
 have hb:bits .and .u64 (IntKind.u64.wrap (-6)) 31=26:=by decide +kernel
 go_enter Tryd.func80, Tryd.ntmps80
 go_wp2
 go_ret
 exact ⟨rfl,rfl⟩
theorem rl_7 (x:Int) (w:World):Calls Tryd.prog 80 #[.int .u32 x, .int .i64 (-7)] w fun e w'=>e = .returned (.int .u32 (eu x 128 33554432))∧w=w':=by
 have hb:bits .and .u64 (IntKind.u64.wrap (-7)) 31=25:=by decide +kernel
 go_enter Tryd.func80, Tryd.ntmps80
 go_wp2
 go_ret
 exact ⟨rfl,rfl⟩
theorem rl_11 (x:Int) (w:World):Calls Tryd.prog 80 #[.int .u32 x, .int .i64 (-11)] w fun e w'=>e = .returned (.int .u32 (eu x 2048 2097152))∧w=w':=by
 have hb:bits .and .u64 (IntKind.u64.wrap (-11)) 31=21:=by decide +kernel
 go_enter Tryd.func80, Tryd.ntmps80
 go_wp2
 go_ret
 exact ⟨rfl,rfl⟩
theorem rl_13 (x:Int) (w:World):Calls Tryd.prog 80 #[.int .u32 x, .int .i64 (-13)] w fun e w'=>e = .returned (.int .u32 (eu x 8192 524288))∧w=w':=by
 have hb:bits .and .u64 (IntKind.u64.wrap (-13)) 31=19:=by decide +kernel
 go_enter Tryd.func80, Tryd.ntmps80
 go_wp2
 go_ret
 exact ⟨rfl,rfl⟩
theorem rl_17 (x:Int) (w:World):Calls Tryd.prog 80 #[.int .u32 x, .int .i64 (-17)] w fun e w'=>e = .returned (.int .u32 (eu x 131072 32768))∧w=w':=by
 have hb:bits .and .u64 (IntKind.u64.wrap (-17)) 31=15:=by decide +kernel
 go_enter Tryd.func80, Tryd.ntmps80
 go_wp2
 go_ret
 exact ⟨rfl,rfl⟩
theorem rl_18 (x:Int) (w:World):Calls Tryd.prog 80 #[.int .u32 x, .int .i64 (-18)] w fun e w'=>e = .returned (.int .u32 (eu x 262144 16384))∧w=w':=by
 have hb:bits .and .u64 (IntKind.u64.wrap (-18)) 31=14:=by decide +kernel
 go_enter Tryd.func80, Tryd.ntmps80
 go_wp2
 go_ret
 exact ⟨rfl,rfl⟩
theorem rl_19 (x:Int) (w:World):Calls Tryd.prog 80 #[.int .u32 x, .int .i64 (-19)] w fun e w'=>e = .returned (.int .u32 (eu x 524288 8192))∧w=w':=by
 have hb:bits .and .u64 (IntKind.u64.wrap (-19)) 31=13:=by decide +kernel
 go_enter Tryd.func80, Tryd.ntmps80
 go_wp2
 go_ret
 exact ⟨rfl,rfl⟩
theorem rl_22 (x:Int) (w:World):Calls Tryd.prog 80 #[.int .u32 x, .int .i64 (-22)] w fun e w'=>e = .returned (.int .u32 (eu x 4194304 1024))∧w=w':=by
 have hb:bits .and .u64 (IntKind.u64.wrap (-22)) 31=10:=by decide +kernel
 go_enter Tryd.func80, Tryd.ntmps80
 go_wp2
 go_ret
 exact ⟨rfl,rfl⟩
theorem rl_25 (x:Int) (w:World):Calls Tryd.prog 80 #[.int .u32 x, .int .i64 (-25)] w fun e w'=>e = .returned (.int .u32 (eu x 33554432 128))∧w=w':=by
 have hb:bits .and .u64 (IntKind.u64.wrap (-25)) 31=7:=by decide +kernel
 go_enter Tryd.func80, Tryd.ntmps80
 go_wp2
 go_ret
 exact ⟨rfl,rfl⟩
theorem yY (w:World):(zeroValue 64).run Tryd.prog w = .ok (.agg (arr .u32 (acE 64 0))) w:=by kernel_rfl
theorem O7:(Tryd.prog.info? 64).map (·.size)=some 64:=by kernel_rfl
theorem mP:(Tryd.prog.info? 62).map (·.size)=some 8:=by kernel_rfl
theorem sizeB:(Tryd.prog.info? 25).map (·.size)=some 64:=by kernel_rfl
theorem nM (w:World):(sizeOf 5).run Tryd.prog w = .ok 1 w:=by kernel_rfl
def KV:Array (Nat×Value):=((K.map (Value.int .u32)).zipIdx.map fun x=>(x.2,x.1)).toArray
theorem build_K (w:World):(Instr.build 64 KV).run Tryd.prog w = .ok (.agg (arr .u32 K)) w:=by kernel_rfl
theorem abL (w:World):(Instr.build 88 #[(0, .agg (arr .u32 H0)),(1, .agg (arr .u32 K))]).run Tryd.prog w = .ok (.agg (xU H0 (acE 64 0) 0 0)) w:=by kernel_rfl
theorem M7 (w:World):Calls Tryd.prog 57 #[] w fun e w'=>e = .returned (.agg (arr .u32 K))∧Below w.heap.size w w':=by
 have z1:(Tryd.prog.info? 64).map (·.size)=some (arr .u32 K).size:=by rw [aD,xH];exact O7
 have s1:(arr .u32 K).size=(arr .u32 (acE 64 0)).size:=by rw [aD,aD,xH,acV]
 have b1:(w.alloc (.cells (arr .u32 (acE 64 0)) 64)).heap[w.heap.size]? = some (.cells (arr .u32 (acE 64 0)) 64 (0,0)):=aG w _
 have Z1:=acD z1
 have S1:=acD s1
 have B1:=acD b1
 clear z1 s1 b1
 go_enter Tryd.func57, Tryd.ntmps57
 go_wp2_with (first|((with_reducible refine aS 0 ?_);refine aj rfl 64 rfl _ (yY _) ?_)|((with_reducible refine aS 1 ?_);refine wpList_build rfl 64 _ rfl KV (by kernel_rfl) _ (build_K _) ?_)|((with_reducible show wpList _ _ _ (Oper.mk none _ _ _ _ _ :: _) _ _);refine ah rfl 64 _ _ rfl w.heap.size _ _ 64 B1.out rfl rfl S1.out Z1.out (av _ _) ?_;intro w2 hb2 hk2 hz2;have HB2:=acD hb2;have yU:=acD hk2;clear hb2 hk2 hz2))
 (try simp only [Exit.inBlock,Exit.then])
 refine bodyPost_ret (results_cell_row rfl _ _ w.heap.size 64 _ (0,0) _ rfl HB2.out Tryd.underlying64 rfl Z1.out) rfl ?_
 exact ⟨rfl,(((Kept.refl (fun i=>i=w.heap.size) w).alloc _).trans yU.out).toBelow (acO _) (by rintro i rfl;exact acO _)⟩
theorem TY (w:World):Calls Tryd.prog 41 #[] w fun e w'=>∃ p,e = .returned (.pointer (some ⟨p,0,none⟩))∧dY w' p H0 (acE 64 0) 0 0∧w.heap.size≤p∧Below w.heap.size w w':=by
 go_enter Tryd.func41, Tryd.ntmps41
 go_wp2_with (first|(go_at_call 57; refine (M7 _).mono ?_;rintro e w1 ⟨rfl,hb1⟩)|((with_reducible refine aS 3 ?_);refine wpList_build rfl 88 _ rfl #[(0, .agg (arr .u32 H0)),(1, .agg (arr .u32 K))] rfl _ (abL _) ?_))
 go_ret
 refine ⟨w1.heap.size,rfl,⟨aG _ _,rfl,by simp⟩,hb1.size,hb1.alloc hb1.size _⟩
end Go.Proofs.YthdgbgleklkaiaaDoor.Ha
namespace Go.Proofs.YthdgbgleklkaiaaDoor.Ha
open Go.RowKit
theorem bf (k:IntKind) (xs:List Int) (i:Nat) (v:Int):(arr k xs).setIfInBounds i (.int k v)=arr k (xs.set i v):=by
 unfold arr
 rw [RD,acQ]
theorem Rw {h b:List Int} (n l:Int) (hl:h.length=8):((xU h b n l).toList.drop 72).take b.length=b.map (Value.int .u8):=by
 have kl:=xH
 rw [zG,← List.append_assoc,List.drop_append_of_le_length (by simp [hl,kl]),List.drop_eq_nil_of_le (by simp [hl,kl])]
 simp
theorem Rv (h b:List Int) (n l:Int):((xU h b n l).toList.drop 0).take h.length=h.map (Value.int .u32):=by
 rw [zG]
 simp
theorem aI {w:World} {g:Nat} {k:IntKind} {xs:List Int} {t:TypeId} {fr:Nat×Nat} (h:w.heap[g]? = some (.cells (arr k xs) t fr)) (i:Nat) (hi:i < xs.length):w.cell? ⟨g,i,none⟩=some (.int k (xs.getD i 0)):=by
 rw [aF h,uQ _ _ _ hi]
theorem bI {w:World} {g:Nat} {k:IntKind} {xs:List Int} {t:TypeId} (h:w.heap[g]? = some (.cells (arr k xs) t (0,0))) (i:Nat) (v:Int):(w.setCell ⟨g,i,none⟩ (.int k v)).heap[g]? = some (.cells (arr k (xs.set i v)) t (0,0)):=by
 rw [bq h,bf]
theorem byte_at {b:List Int} (hb:∀ x∈b,0≤x∧x≤255) (j:Nat):0≤b.getD j 0∧b.getD j 0≤255:=by
 simp only [acI]
 cases e:b[j]? with
 | none=>simp
 | some y=>simpa using hb y (List.mem_of_getElem? e)
theorem flat4 (a b c d:Int):(a+b+c+d) % 4294967296=add (add (add a b) c) d:=by
 simp only [add,IntKind.wrap_u32]
 omega
theorem RF (p:Nat) (h b:List Int) (n l:Int) (w:World) (s:dY w p h b n l) (hb:∀ x∈b,0≤x∧x≤255) :
  Calls Tryd.prog 79 #[.pointer (some ⟨p,0,none⟩)] w fun e w'=>e = .returned (.agg (arr .u32 (sched b 48)))∧Below w.heap.size w w':=by
 have hs2:=((s.alloc (.cells (arr .u32 (acE 64 0)) 64)).alloc (.cells (arr .u32 (acE 64 0)) 64)).blk
 have hp2:=Rw (b:=b) n l s.hl
 have hz2:(Tryd.prog.info? 25).map (·.size)=some b.length:=by rw [s.bl];exact sizeB
 have hst:((w.alloc (.cells (arr .u32 (acE 64 0)) 64)).alloc (.cells (arr .u32 (acE 64 0)) 64)).heap[w.heap.size+1]? = some (.cells (arr .u32 (pre b 0)) 64 (0,0)) ∧
   ((w.alloc (.cells (arr .u32 (acE 64 0)) 64)).alloc (.cells (arr .u32 (acE 64 0)) 64)).heap[w.heap.size]? = some (.cells (arr .u32 (acE 64 0)) 64 (0,0)) ∧
   Below w.heap.size w ((w.alloc (.cells (arr .u32 (acE 64 0)) 64)).alloc (.cells (arr .u32 (acE 64 0)) 64)):=by
  refine ⟨?_,aY (aG w _) _,((Below.refl _ w).alloc (acO _) _).alloc (by simp) _⟩
  have:=aG (w.alloc (.cells (arr .u32 (acE 64 0)) 64)) (.cells (arr .u32 (acE 64 0)) 64)
  rw [show (w.alloc (.cells (arr .u32 (acE 64 0)) 64)).heap.size=w.heap.size+1 by simp] at this
  rw [jU]
  exact this
 have hix:=fun (j:Nat) (hj:j < 64) (w:World)=>CJ (P := Tryd.prog) w 25 5 64 .u8 .u8 .i64 Tryd.underlying25 Tryd.underlying5 nM b s.bl j hj
 have HS2:=acD hs2
 have yj:=acD hp2
 have HZ2:=acD hz2
 have HST:=acD hst
 have HIX:=acD hix
 clear hs2 hp2 hz2 hst hix s
 go_enter Tryd.func79, Tryd.ntmps79
 go_wp2_with (first|((with_reducible refine aS 2 ?_);refine aj rfl 64 rfl _ (yY _) ?_)|((with_reducible refine aS 3 ?_);refine aj rfl 64 rfl _ (yY _) ?_)|((with_reducible refine aS 14 ?_);refine ak rfl 25 _ rfl p 72 _ 88 (0,0) _ HS2.out rfl .u8 b yj.out Tryd.underlying25 rfl HZ2.out ?_))
 go_loopw [15] (fun i wr=>∃ j:Nat,j≤64∧i = .int .i64 j∧wr.heap[w.heap.size+1]? = some (.cells (arr .u32 (pre b j)) 64 (0,0))∧wr.heap[w.heap.size]? = some (.cells (arr .u32 (acE 64 0)) 64 (0,0))∧Below w.heap.size w wr) (fun i _=>64 - (intOf i).toNat)
 case atStart=>exact ⟨0,Nat.zero_le _,rfl,HST.out.1,HST.out.2.1,HST.out.2.2⟩
 case round =>
  obtain ⟨j,hj,rfl,g1,g2,hbw⟩:=hrel
  by_cases hlt:j < 64
  ·have x0:=HIX.out j hlt
   have x1:=aI g1 (j / 4) (by rw [yC];omega)
   have x2:=aC g1 (j / 4)
   obtain ⟨b0,b1⟩:=byte_at hb j
   have G1:=acD (bI g1 (j / 4) (bits .or .u32 (IntKind.u32.wrap ((pre b j).getD (j / 4) 0 * 256)) (b.getD j 0)))
   rw [← zT b j hlt] at G1
   have G2:=acD g2
   have oW:=acD hbw
   clear g1 g2 hbw
   generalize (pre b j).getD (j / 4) 0=y at x1 G1
   generalize b.getD j 0=x at x0 b0 b1 G1
   go_wp2
   go_roundw
   case rel=>exact ⟨j+1,by omega,by go_num,G1.out,aB G2.out _ (by omega),oW.out.setCell (p:=⟨w.heap.size+1,j / 4,none⟩) (by simp) _⟩
   case measure=>simp [intOf];omega
  ·have ej:j=64:=by omega
   obtain ⟨wo,rfl⟩:∃ wo:World,wo=wr:=⟨_,rfl⟩
   rw [ej] at g1
   clear ej
   have G1:=acD g1
   have G2:=acD g2
   have oW:=acD hbw
   clear g1 g2 hbw
   go_wp2_with fail
   go_loopw [6] (fun i wr=>∃ t:Nat,16≤t∧t≤64∧i = .int .i64 t∧wr.heap[w.heap.size+1]? = some (.cells (arr .u32 (sched b (t - 16))) 64 (0,0))∧wr.heap[w.heap.size]? = some (.cells (arr .u32 (acE 64 0)) 64 (0,0))∧Below w.heap.size w wr) (fun i _=>64 - (intOf i).toNat)
   case atStart=>exact ⟨16,by omega,by omega,rfl,G1.out,G2.out,oW.out⟩
   case round =>
    obtain ⟨t,h16,ht,rfl,g1,g2,hbw⟩:=hrel
    by_cases hlt:t < 64
    ·have hsl:=gU b (t - 16)
     have x2:=aI g1 (t - 2) (by omega)
     have x7:=aI g1 (t - 7) (by omega)
     have x15:=aI g1 (t - 15) (by omega)
     have x16:=aI g1 (t - 16) (by omega)
     have xt:=aI g1 t (by omega)
     have xf:=aC g1 t
     have hnx:sched b (t - 16+1)=(sched b (t - 16)).set t (next (sched b (t - 16)) t):=by
      have:=jG b (t - 16)
      rwa [show 16+(t - 16)=t by omega] at this
     have g1':=bI g1 t (next (sched b (t - 16)) t)
     rw [← hnx,show t - 16+1=t+1 - 16 by omega] at g1'
     have G1:Hid (∀ v,v=next (sched b (t - 16)) t→(wr.setCell ⟨w.heap.size+1,t,none⟩ (.int .u32 v)).heap[w.heap.size+1]? = some (.cells (arr .u32 (sched b (t+1 - 16))) 64 (0,0))):=acD (by rintro v rfl;exact g1')
     have G2:=acD g2
     have oW:=acD hbw
     clear g1 g1' g2 hbw hsl hnx
     unfold next at G1
     generalize (sched b (t - 16)).getD (t - 2) 0=y2 at x2 G1
     generalize (sched b (t - 16)).getD (t - 7) 0=y7 at x7 G1
     generalize (sched b (t - 16)).getD (t - 15) 0=y15 at x15 G1
     generalize (sched b (t - 16)).getD (t - 16) 0=y16 at x16 G1
     have i15:IntKind.i64.wrap ((t:Int) - 15)=(t:Int) - 15:=IntWalk.i64_in _ (by omega)
     have i2:IntKind.i64.wrap ((t:Int) - 2)=(t:Int) - 2:=IntWalk.i64_in _ (by omega)
     have i7:IntKind.i64.wrap ((t:Int) - 7)=(t:Int) - 7:=IntWalk.i64_in _ (by omega)
     have i16:IntKind.i64.wrap ((t:Int) - 16)=(t:Int) - 16:=IntWalk.i64_in _ (by omega)
     have n15:((t:Int) - 15).toNat=t - 15:=by omega
     have n2:((t:Int) - 2).toNat=t - 2:=by omega
     have n7:((t:Int) - 7).toNat=t - 7:=by omega
     have n16:((t:Int) - 16).toNat=t - 16:=by omega
     go_wp2_with fail
     go_region
     go_wp2_with (go_at_call 80; first|((with_reducible refine (rl_7 _ _).mono ?_);rintro e w' ⟨rfl,rfl⟩)|((with_reducible refine (rl_17 _ _).mono ?_);rintro e w' ⟨rfl,rfl⟩)|((with_reducible refine (rl_18 _ _).mono ?_);rintro e w' ⟨rfl,rfl⟩)|((with_reducible refine (rl_19 _ _).mono ?_);rintro e w' ⟨rfl,rfl⟩))
     go_region
     clear i15 i2 i7 i16 n15 n2 n7 n16
     go_wp2_with fail
     go_roundw
     case rel=>exact ⟨t+1,by omega,by omega,by go_num,G1.out _ (flat4 (s1 y2) y7 (s0 y15) y16),aB G2.out _ (by omega),((oW.out.setCell (p:=⟨w.heap.size+1,t,none⟩) (by simp) _).drew).drew⟩
     case measure=>simp [intOf];omega
    ·obtain rfl:t=64:=by omega
     have z1:(Tryd.prog.info? 64).map (·.size)=some (sched b 48).length:=by rw [gU];exact O7
     have z2:(Tryd.prog.info? 64).map (·.size)=some (arr .u32 (sched b 48)).size:=by rw [aD,gU];exact O7
     have z3:(arr .u32 (sched b 48)).size=(arr .u32 (acE 64 0)).size:=by rw [aD,aD,gU,acV]
     have z4:((arr .u32 (sched b 48)).toList.drop 0).take (sched b 48).length=(sched b 48).map (Value.int .u32):=by rw [bN,List.drop_zero,List.take_of_length_le (by simp)]
     have G1:=acD g1
     have G2:=acD g2
     have oW:=acD hbw
     have Z1:=acD z1
     have Z2:=acD z2
     have Z3:=acD z3
     have Z4:=acD z4
     clear g1 g2 hbw z1 z2 z3 z4
     go_wp2_with (first|((with_reducible refine aS 74 ?_);refine ak rfl 64 _ rfl (w.heap.size+1) 0 _ 64 (0,0) _ G1.out rfl .u32 (sched b 48) Z4.out Tryd.underlying64 rfl Z1.out ?_)|((with_reducible show wpList _ _ _ (Oper.mk none _ _ _ _ _ :: _) _ _);refine ah rfl 64 _ _ rfl w.heap.size _ _ 64 G2.out rfl rfl Z3.out Z2.out (av _ _) ?_;intro w2 hb2 hk2 hz2;have HB2:=acD hb2;have yU:=acD hk2;clear hb2 hk2 hz2))
     (try simp only [Exit.inBlock,Exit.then])
     refine bodyPost_ret (results_cell_row rfl _ _ w.heap.size 64 _ (0,0) _ rfl HB2.out Tryd.underlying64 rfl Z2.out) rfl ?_
     exact ⟨rfl,oW.out.trans (yU.out.toBelow oW.out.size (by rintro i rfl;exact acO _))⟩
end Go.Proofs.YthdgbgleklkaiaaDoor.Ha
