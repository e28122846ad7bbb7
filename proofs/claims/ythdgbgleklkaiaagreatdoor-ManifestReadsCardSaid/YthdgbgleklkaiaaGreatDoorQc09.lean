/- Strings as bytes: The hash of sha in plain words: sha: sha.schedule: T. Condition: as each theorem says. -/
import Derived.BigRegion
import Derived.Lib.AppendStr
import Derived.Lib.ConvBytes
import Derived.Test.YthdgbgleklkaiaaGreatDoorQc03
import Derived.Test.YthdgbgleklkaiaaGreatDoorQc04
open Go.Lib renaming hid→abC
open List renaming replicate→abD,getD→abE,length_drop→abF,length_map→abG,range→abH,getElem?_append_right→abI,set_append_right→abJ,ext_getElem→abK,length_set→abL,length_append→abM,drop_eq_nil_of_le→abN,foldl_append→abO,getElem?_toArray→abP,getElem_map→abR,getElem?_append_left→abS,map_set→abT,take_of_length_le→abU,mem_map→abV,mem_range→abW,getElem?_eq_none→abX,nil_append→abZ,append_nil→acA,length_range→acB,getElem_set→acC,getElem_range→acD,range_succ→acE,set_append_left→acF,length_replicate→acG,take_succ_eq_append_getElem→acH,length_take→acI
open Nat renaming le_refl→abQ,add_sub_cancel_left→abY
set_option linter.unusedSimpArgs false
set_option linter.unusedVariables false
set_option maxRecDepth 100000
set_option maxHeartbeats 16000000
namespace Go.Proofs.YthdgbgleklkaiaaGreatDoor
open Go.RowKit
theorem qD (place:Nat→Option (Nat×Nat)) (k:IntKind) (X Y a:List Int) (i off:Nat) (rest:List (Nat×Value)) (ho:off=X.length) (hp:place i=some (off,a.length)) (hY:a.length≤Y.length) :
  Instr.fill place (arr k (X ++ Y)) ((i, .agg (arr k a)) :: rest)=Instr.fill place (arr k (X ++ a ++ Y.drop a.length)) rest:=by
 subst ho
 have s:(Value.agg (arr k a)).cells.size=a.length:=by simp [Value.cells,aD]
 rw [DN _ _ _ _ _ X.length (by rw [s];exact hp) (by rw [s,aD,abM];omega)]
 congr 1
 simp only [Value.cells,arr,List.size_toArray,abG,List.map_append]
 congr 1
 have e1:List.take X.length (X.map (Value.int k) ++ Y.map (Value.int k))=X.map (Value.int k):=List.take_left' (by simp)
 have e2:List.drop (X.length+a.length) (X.map (Value.int k) ++ Y.map (Value.int k))=(Y.drop a.length).map (Value.int k):=by
  rw [List.drop_append,abN (by simp),abG,abY,abZ,List.map_drop]
 rw [e1,e2]
theorem fill4 (k:IntKind) (n:Nat) (a b c d z:List Int) (ha:a.length=n) (hb:b.length=n) (hc:c.length=n) (hd:d.length=n) (hz:z.length=4 * n) :
  Instr.fill (fun x => #[((0:Nat),n),(n,n),(2 * n,n),(3 * n,n)][x]?) (arr k z)
   [(0, .agg (arr k a)),(1, .agg (arr k b)),(2, .agg (arr k c)),(3, .agg (arr k d))]=some (arr k (a ++ b ++ c ++ d)):=by
 have h0:=qD (fun x => #[((0:Nat),n),(n,n),(2 * n,n),(3 * n,n)][x]?) k [] z a 0 0 [(1, .agg (arr k b)),(2, .agg (arr k c)),(3, .agg (arr k d))] rfl (by rw [ha];rfl) (by omega)
 have h1:=qD (fun x => #[((0:Nat),n),(n,n),(2 * n,n),(3 * n,n)][x]?) k a (z.drop n) b 1 n [(2, .agg (arr k c)),(3, .agg (arr k d))] ha.symm (by rw [hb];rfl) (by rw [abF];omega)
 have h2:=qD (fun x => #[((0:Nat),n),(n,n),(2 * n,n),(3 * n,n)][x]?) k (a ++ b) ((z.drop n).drop n) c 2 (2 * n) [(3, .agg (arr k d))] (by rw [abM];omega) (by rw [hc];rfl) (by rw [abF,abF];omega)
 have h3:=qD (fun x => #[((0:Nat),n),(n,n),(2 * n,n),(3 * n,n)][x]?) k (a ++ b ++ c) (((z.drop n).drop n).drop n) d 3 (3 * n) [] (by rw [abM,abM];omega) (by rw [hd];rfl) (by rw [abF,abF,abF];omega)
 simp only [abZ,ha] at h0
 rw [hb] at h1
 rw [hc] at h2
 rw [hd] at h3
 rw [h0,h1,h2,h3,Instr.fill]
 have e:(((z.drop n).drop n).drop n).drop n=[]:=abN (by rw [abF,abF,abF];omega)
 rw [e,acA]
end Go.Proofs.YthdgbgleklkaiaaGreatDoor
namespace Go.Proofs.YthdgbgleklkaiaaGreatDoor.Ha
open Go.RowKit
def K:List Int:=[1116352408,1899447441,3049323471,3921009573,961987163,1508970993,2453635748,2870763221,3624381080,310598401,607225278,1426881987,1925078388,2162078206,2614888103,3248222580,3835390401,4022224774,264347078,604807628,770255983,1249150122,1555081692,1996064986,2554220882,2821834349,2952996808,3210313671,3336571891,3584528711,113926993,338241895,666307205,773529912,1294757372,1396182291,1695183700,1986661051,2177026350,2456956037,2730485921,2820302411,3259730800,3345764771,3516065817,3600352804,4094571909,275423344,430227734,506948616,659060556,883997877,958139571,1322822218,1537002063,1747873779,1955562222,2024104815,2227730452,2361852424,2428436474,2756734187,3204031479,3329325298]
def H0:List Int:=[1779033703,3144134277,1013904242,2773480762,1359893119,2600822924,528734635,1541459225]
def eB (x n m:Int):Int:=bits .or .u32 (IntKind.u32.wrap (x * m)) (x / n)
def add (x y:Int):Int:=IntKind.u32.wrap (x+y)
def s0 (x:Int):Int:=bits .xor .u32 (bits .xor .u32 (eB x 128 33554432) (eB x 262144 16384)) (x / 8)
def s1 (x:Int):Int:=bits .xor .u32 (bits .xor .u32 (eB x 131072 32768) (eB x 524288 8192)) (x / 1024)
def e1 (x:Int):Int:=bits .xor .u32 (bits .xor .u32 (eB x 64 67108864) (eB x 2048 2097152)) (eB x 33554432 128)
def e0 (x:Int):Int:=bits .xor .u32 (bits .xor .u32 (eB x 4 1073741824) (eB x 8192 524288)) (eB x 4194304 1024)
def ch (e f g:Int):Int:=bits .xor .u32 (bits .and .u32 e f) (bits .and .u32 (bits .xor .u32 (if IntKind.u32.signed=true then -1 else IntKind.u32.max) e) g)
def maj (a b c:Int):Int:=bits .xor .u32 (bits .xor .u32 (bits .and .u32 a b) (bits .and .u32 a c)) (bits .and .u32 b c)
def tx (k w:Int) (v:List Int):Int:=add (add (add (add (v.getD 7 0) (e1 (v.getD 4 0))) (ch (v.getD 4 0) (v.getD 5 0) (v.getD 6 0))) k) w
def ty (v:List Int):Int:=add (e0 (v.getD 0 0)) (maj (v.getD 0 0) (v.getD 1 0) (v.getD 2 0))
def Sq (k w:Int) (v:List Int):List Int:=[add (tx k w v) (ty v),v.getD 0 0,v.getD 1 0,v.getD 2 0,add (v.getD 3 0) (tx k w v),v.getD 4 0,v.getD 5 0,v.getD 6 0]
def next (ws:List Int) (t:Nat):Int:=add (add (add (s1 (ws.getD (t - 2) 0)) (ws.getD (t - 7) 0)) (s0 (ws.getD (t - 15) 0))) (ws.getD (t - 16) 0)
def part (b:List Int) (o:Nat):Nat→Int
 | 0=>0
 | n+1=>bits .or .u32 (IntKind.u32.wrap (part b o n * 256)) (b.getD (o+n) 0)
def pre (b:List Int) (i:Nat):List Int:=(abH 64).map fun j=>part b (4 * j) (min 4 (i - 4 * j))
def sched (b:List Int) (n:Nat):List Int:=(abH n).foldl (fun ws j=>ws.set (16+j) (next ws (16+j))) (pre b 64)
def rounds (ws h:List Int) (n:Nat):List Int:=(abH n).foldl (fun v t=>Sq (K.getD t 0) (ws.getD t 0) v) h
def sums (h v:List Int) (n:Nat):List Int:=h.mapIdx fun i x=>if i < n then add x (v.getD i 0) else x
def comp (h b:List Int):List Int:=sums h (rounds (sched b 48) h 64) 8
theorem yx (b:List Int) (i:Nat):(pre b i).length=64:=by simp [pre]
theorem jW (b:List Int):pre b 0=abD 64 0:=by
 unfold pre
 apply abK
 ·simp
 ·intro i h1 h2
  rw [List.getElem_replicate,abR,Nat.zero_sub,Nat.min_zero]
  rfl
theorem Fv (b:List Int) (i j:Nat) (hj:j < 64):(pre b i).getD j 0=part b (4 * j) (min 4 (i - 4 * j)):=by simp [pre,abE,hj]
theorem zO (b:List Int) (i:Nat) (hi:i < 64):pre b (i+1)=(pre b i).set (i / 4) (bits .or .u32 (IntKind.u32.wrap ((pre b i).getD (i / 4) 0 * 256)) (b.getD i 0)):=by
 rw [Fv _ _ _ (by omega)]
 apply abK
 ·simp [pre]
 ·intro j h1 h2
  simp only [pre,abG,acB] at h1
  rw [acC]
  simp only [pre,abR,acD]
  by_cases e:i / 4=j
  ·subst e
   rw [if_pos rfl,show min 4 (i+1 - 4 * (i / 4))=i % 4+1 by omega,show min 4 (i - 4 * (i / 4))=i % 4 by omega,part,show 4 * (i / 4)+i % 4=i by omega]
  ·rw [if_neg e]
   congr 1
   omega
theorem jK (b:List Int) (n:Nat):sched b (n+1)=(sched b n).set (16+n) (next (sched b n) (16+n)):=by simp [sched,acE,abO]
theorem gY (b:List Int) (n:Nat):(sched b n).length=64:=by
 induction n with
 | zero=>simp [sched,pre]
 | succ n ih=>rw [jK,abL,ih]
theorem rounds_succ (ws h:List Int) (n:Nat):rounds ws h (n+1)=Sq (K.getD n 0) (ws.getD n 0) (rounds ws h n):=by simp [rounds,acE,abO]
theorem gP (ws h:List Int) (hh:h.length=8) (n:Nat):(rounds ws h n).length=8:=by
 cases n with
 | zero=>simpa [rounds] using hh
 | succ n=>rw [rounds_succ];rfl
theorem mK (h v:List Int):sums h v 0=h:=by
 unfold sums
 apply abK <;> simp
theorem zw (h v:List Int) (n:Nat):(sums h v n).length=h.length:=by simp [sums]
theorem oV (h v:List Int) (n i:Nat) (hi:i < h.length) (hn:n≤i):(sums h v n).getD i 0=h.getD i 0:=by
 simp [sums,abE,hi]
 omega
theorem mM (h v:List Int) (n:Nat) (_hn:n < h.length):sums h v (n+1)=(sums h v n).set n (add (h.getD n 0) (v.getD n 0)):=by
 apply abK
 ·simp [sums]
 ·intro i h1 h2
  simp only [sums,List.length_mapIdx] at h1
  rw [acC]
  simp only [sums,List.getElem_mapIdx]
  by_cases e:n=i
  ·subst e
   rw [if_pos (by omega),if_pos rfl]
   simp [abE,h1]
  ·rw [if_neg e]
   by_cases e2:i < n
   ·rw [if_pos (by omega),if_pos e2]
   ·rw [if_neg (by omega),if_neg e2]
theorem pY (h b:List Int):(comp h b).length=h.length:=zw _ _ _
theorem lW:K.length=64:=by decide
structure S where
 h:List Int
 b:List Int
 n:Nat
def S.take (s:S) (x:Int):S:=if s.n+1=64 then ⟨comp s.h (s.b.set s.n x),s.b.set s.n x,0⟩ else ⟨s.h,s.b.set s.n x,s.n+1⟩
def S.all (s:S) (xs:List Int):S:=xs.foldl S.take s
def S.new:S:=⟨H0,abD 64 0,0⟩
def tail (n:Nat):List Int:=128 :: abD ((2 * 64 - 8 - 1 - n % 64) % 64) 0 ++ abD (8 - 8) 0 ++ (abH 8).map fun i=>((8 * n / 2 ^ (8 * (7 - i)) % 256:Nat):Int)
def digest (h:List Int):List Int:=(abH 32).map fun i=>h.getD (i / 4) 0 / 2 ^ (8 * (3 - i % 4)) % 256
def hash (m:List Int):List Int:=digest ((S.new.all (m ++ tail m.length)).h)
theorem dM (m:List Int):(hash m).length=32:=by simp [hash,digest]
structure S.Ok (s:S):Prop where
 h:s.h.length=8
 b:s.b.length=64
 n:s.n < 64
 by0:∀ x∈s.b,0≤x∧x≤255
theorem S.Ok.take {s:S} (h:s.Ok) (x:Int) (hx:0≤x∧x≤255):(s.take x).Ok:=by
 have hn:=h.n
 have hb:∀ y∈s.b.set s.n x,0≤y∧y≤255:=by
  intro y hy
  rcases List.mem_or_eq_of_mem_set hy with h1|rfl
  ·exact h.by0 y h1
  ·exact hx
 unfold S.take
 split
 ·exact ⟨(pY _ _).trans h.h,by rw [abL];exact h.b,by show 0 < _;omega,hb⟩
 ·exact ⟨h.h,by rw [abL];exact h.b,by show s.n+1 < _;omega,hb⟩
theorem S.Ok.all {s:S} (h:s.Ok):∀ (xs:List Int),(∀ x∈xs,0≤x∧x≤255)→(s.all xs).Ok:=by
 intro xs
 induction xs generalizing s with
 | nil=>intro _;exact h
 | cons x xs ih=>intro hx;exact ih (h.take x (hx x (by simp))) fun y hy=>hx y (by simp [hy])
theorem S.Ok.new:S.new.Ok:=by
 refine ⟨rfl,by simp [S.new],by simp [S.new],?_⟩
 intro x hx
 have:=List.eq_of_mem_replicate hx
 omega
theorem S.zi (s:S) (h:s.n < 64) (x:Int):(s.take x).n=(s.n+1) % 64:=by
 unfold S.take
 split
 ·rename_i e;rw [e]
 ·show s.n+1=_;omega
theorem S.Ee:∀ (xs:List Int) (s:S),s.n < 64→(s.all xs).n=(s.n+xs.length) % 64
 | [],s,h=>by show s.n=_;simp;omega
 | x :: xs,s,h=>by
  have h1:(s.take x).n < 64:=by rw [S.zi s h];omega
  have:=S.Ee xs (s.take x) h1
  show ((s.take x).all xs).n=_
  rw [this,S.zi s h,List.length_cons]
  omega
theorem S.all_append (s:S) (xs ys:List Int):s.all (xs ++ ys)=(s.all xs).all ys:=by simp [S.all,abO]
theorem S.jC (s:S) (xs:List Int) (x:Int):s.all (xs ++ [x])=(s.all xs).take x:=by simp [S.all,abO]
end Go.Proofs.YthdgbgleklkaiaaGreatDoor.Ha
namespace Go.Proofs.YthdgbgleklkaiaaGreatDoor.Ha
open Go.RowKit
def jo (h b:List Int) (n l:Int):Array Value:=(h.map (Value.int .u32) ++ (K.map (Value.int .u32) ++ (b.map (Value.int .u8) ++ [Value.int .i64 n,Value.int .u64 l]))).toArray
structure bE (w:World) (p:Nat) (h b:List Int) (n l:Int):Prop where
 blk:w.heap[p]? = some (.cells (jo h b n l) 147 (0,0))
 hl:h.length=8
 bl:b.length=64
theorem bE.fr {w:World} {p:Nat} {h b:List Int} {n l:Int} (s:bE w p h b n l) (o:Nat):w.frozen? ⟨p,o,none⟩=false:=aC s.blk o
theorem bE.kept {T:Nat→Prop} {w w':World} {p:Nat} {h b:List Int} {n l:Int} (s:bE w p h b n l) (k:Kept T w w') (hp:¬ T p):bE w' p h b n l:=⟨k.blk s.blk hp,s.hl,s.bl⟩
theorem bE.below {w w':World} {p:Nat} {h b:List Int} {n l:Int} (s:bE w p h b n l) (k:Below w.heap.size w w'):bE w' p h b n l:=⟨Below.blk k s.blk (aV s.blk),s.hl,s.bl⟩
theorem bE.drewN {w:World} {p:Nat} {h b:List Int} {n l:Int} (s:bE w p h b n l) (k:Nat):bE (w.drewN k) p h b n l:=⟨s.blk,s.hl,s.bl⟩
theorem bE.drew {w:World} {p:Nat} {h b:List Int} {n l:Int} (s:bE w p h b n l):bE w.drew p h b n l:=⟨s.blk,s.hl,s.bl⟩
theorem bE.alloc {w:World} {p:Nat} {h b:List Int} {n l:Int} (s:bE w p h b n l) (o:Obj):bE (w.alloc o) p h b n l:=⟨aY s.blk o,s.hl,s.bl⟩
theorem nS (k:IntKind) (xs:List Int) (i:Nat) (hi:i < xs.length):(xs.map (Value.int k))[i]? = some (.int k (xs.getD i 0)):=by simp [abE,hi]
theorem VR {h b:List Int} (n l:Int) (hl:h.length=8) (i:Nat) (hi:i < 8):(jo h b n l)[i]? = some (.int .u32 (h.getD i 0)):=by
 unfold jo
 rw [abP,abS (by simp;omega),nS _ _ _ (by omega)]
theorem VQ {h b:List Int} (n l:Int) (hl:h.length=8) (i:Nat) (hi:i < 64):(jo h b n l)[8+i]? = some (.int .u32 (K.getD i 0)):=by
 unfold jo
 have kl:=lW
 rw [abP,abI (by simp;omega),abS (by simp;omega),abG,hl,abY,nS _ _ _ (by omega)]
theorem Ir {h b:List Int} (n l:Int) (hl:h.length=8) (bl:b.length=64) (i:Nat) (hi:i < 64):(jo h b n l)[72+i]? = some (.int .u8 (b.getD i 0)):=by
 unfold jo
 have kl:=lW
 rw [abP,abI (by simp;omega),abI (by simp;omega),abS (by simp;omega),abG,abG,hl,kl,show 72+i - 8 - 64=i by omega,nS _ _ _ (by omega)]
theorem zA {h b:List Int} (n l:Int) (hl:h.length=8) (bl:b.length=64):(jo h b n l)[136]? = some (.int .i64 n)∧(jo h b n l)[137]? = some (.int .u64 l):=by
 unfold jo
 have kl:=lW
 constructor <;> rw [abP,abI (by simp;omega),abI (by simp;omega),abI (by simp;omega)] <;> simp [hl,kl,bl]
theorem zx (h b:List Int) (n l:Int):(jo h b n l).toList=h.map (Value.int .u32) ++ (K.map (Value.int .u32) ++ (b.map (Value.int .u8) ++ [Value.int .i64 n,Value.int .u64 l])):=rfl
theorem xH (cs:List Value) (i:Nat) (v:Value):cs.toArray.setIfInBounds i v=(cs.set i v).toArray:=by simp
theorem zy {h b:List Int} (n l:Int) (hl:h.length=8) (i:Nat) (hi:i < 8) (x:Int):(jo h b n l).setIfInBounds i (.int .u32 x)=jo (h.set i x) b n l:=by
 unfold jo
 rw [xH,acF _ _ (by simp;omega),abT]
theorem oW {h b:List Int} (n l:Int) (hl:h.length=8) (bl:b.length=64) (i:Nat) (hi:i < 64) (x:Int):(jo h b n l).setIfInBounds (72+i) (.int .u8 x)=jo h (b.set i x) n l:=by
 unfold jo
 have kl:=lW
 rw [xH,abJ _ _ (by simp;omega),abJ _ _ (by simp;omega),acF _ _ (by simp;omega),abT,abG,abG,hl,kl,show 72+i - 8 - 64=i by omega]
theorem kV {h b:List Int} (n l:Int) (hl:h.length=8) (bl:b.length=64) (x:Int):(jo h b n l).setIfInBounds 136 (.int .i64 x)=jo h b x l∧(jo h b n l).setIfInBounds 137 (.int .u64 x)=jo h b n x:=by
 unfold jo
 have kl:=lW
 constructor <;> rw [xH,abJ _ _ (by simp;omega),abJ _ _ (by simp;omega),abJ _ _ (by simp;omega)] <;> simp [hl,kl,bl]
theorem bE.at_h {w:World} {p:Nat} {h b:List Int} {n l:Int} (s:bE w p h b n l) (i:Nat) (hi:i < 8):w.cell? ⟨p,i,none⟩=some (.int .u32 (h.getD i 0)):=by rw [aF s.blk,VR n l s.hl i hi]
theorem bE.at_k {w:World} {p:Nat} {h b:List Int} {n l:Int} (s:bE w p h b n l) (i:Nat) (hi:i < 64):w.cell? ⟨p,8+i,none⟩=some (.int .u32 (K.getD i 0)):=by rw [aF s.blk,VQ n l s.hl i hi]
theorem bE.at_b {w:World} {p:Nat} {h b:List Int} {n l:Int} (s:bE w p h b n l) (i:Nat) (hi:i < 64):w.cell? ⟨p,72+i,none⟩=some (.int .u8 (b.getD i 0)):=by rw [aF s.blk,Ir n l s.hl s.bl i hi]
theorem bE.NI {w:World} {p:Nat} {h b:List Int} {n l:Int} (s:bE w p h b n l):w.cell? ⟨p,136,none⟩=some (.int .i64 n):=by rw [aF s.blk,(zA n l s.hl s.bl).1]
theorem bE.at_l {w:World} {p:Nat} {h b:List Int} {n l:Int} (s:bE w p h b n l):w.cell? ⟨p,137,none⟩=some (.int .u64 l):=by rw [aF s.blk,(zA n l s.hl s.bl).2]
theorem bE.Wh {w:World} {p:Nat} {h b:List Int} {n l:Int} (s:bE w p h b n l) (i:Nat) (hi:i < 8) (x:Int):bE (w.setCell ⟨p,i,none⟩ (.int .u32 x)) p (h.set i x) b n l :=
 ⟨by rw [aQ s.blk,zy n l s.hl i hi],by rw [abL];exact s.hl,s.bl⟩
theorem bE.Wi {w:World} {p:Nat} {h b:List Int} {n l:Int} (s:bE w p h b n l) (i:Nat) (hi:i < 64) (x:Int):bE (w.setCell ⟨p,72+i,none⟩ (.int .u8 x)) p h (b.set i x) n l :=
 ⟨by rw [aQ s.blk,oW n l s.hl s.bl i hi],s.hl,by rw [abL];exact s.bl⟩
theorem bE.IB {w:World} {p:Nat} {h b:List Int} {n l:Int} (s:bE w p h b n l) (x:Int):bE (w.setCell ⟨p,136,none⟩ (.int .i64 x)) p h b x l :=
 ⟨by rw [aQ s.blk,(kV n l s.hl s.bl x).1],s.hl,s.bl⟩
theorem bE.Wd {w:World} {p:Nat} {h b:List Int} {n l:Int} (s:bE w p h b n l) (x:Int):bE (w.setCell ⟨p,137,none⟩ (.int .u64 x)) p h b n x :=
 ⟨by rw [aQ s.blk,(kV n l s.hl s.bl x).2],s.hl,s.bl⟩
theorem rl_2 (x:Int) (w:World):Calls Tryz.prog 186 #[.int .u32 x, .int .i64 (-2)] w fun e w'=>e = .returned (.int .u32 (eB x 4 1073741824))∧w=w':=by
 have hb:bits .and .u64 (IntKind.u64.wrap (-2)) 31=30:=by decide +kernel
 go_enter Tryz.func186, Tryz.ntmps186
 go_wp2
 go_ret
 exact ⟨rfl,rfl⟩
theorem rl_6 (x:Int) (w:World):Calls Tryz.prog 186 #[.int .u32 x, .int .i64 (-6)] w fun e w'=>e = .returned (.int .u32 (eB x 64 67108864))∧w=w':=by
 have hb:bits .and .u64 (IntKind.u64.wrap (-6)) 31=26:=by decide +kernel
 go_enter Tryz.func186, Tryz.ntmps186
 go_wp2
 go_ret
 exact ⟨rfl,rfl⟩
theorem rl_7 (x:Int) (w:World):Calls Tryz.prog 186 #[.int .u32 x, .int .i64 (-7)] w fun e w'=>e = .returned (.int .u32 (eB x 128 33554432))∧w=w':=by
 have hb:bits .and .u64 (IntKind.u64.wrap (-7)) 31=25:=by decide +kernel
 go_enter Tryz.func186, Tryz.ntmps186
 go_wp2
 go_ret
 exact ⟨rfl,rfl⟩
theorem rl_11 (x:Int) (w:World):Calls Tryz.prog 186 #[.int .u32 x, .int .i64 (-11)] w fun e w'=>e = .returned (.int .u32 (eB x 2048 2097152))∧w=w':=by
 have hb:bits .and .u64 (IntKind.u64.wrap (-11)) 31=21:=by decide +kernel
 go_enter Tryz.func186, Tryz.ntmps186
 go_wp2
 go_ret
 exact ⟨rfl,rfl⟩
theorem rl_13 (x:Int) (w:World):Calls Tryz.prog 186 #[.int .u32 x, .int .i64 (-13)] w fun e w'=>e = .returned (.int .u32 (eB x 8192 524288))∧w=w':=by
 have hb:bits .and .u64 (IntKind.u64.wrap (-13)) 31=19:=by decide +kernel
 go_enter Tryz.func186, Tryz.ntmps186
 go_wp2
 go_ret
 exact ⟨rfl,rfl⟩
theorem rl_17 (x:Int) (w:World):Calls Tryz.prog 186 #[.int .u32 x, .int .i64 (-17)] w fun e w'=>e = .returned (.int .u32 (eB x 131072 32768))∧w=w':=by
 have hb:bits .and .u64 (IntKind.u64.wrap (-17)) 31=15:=by decide +kernel
 go_enter Tryz.func186, Tryz.ntmps186
 go_wp2
 go_ret
 exact ⟨rfl,rfl⟩
theorem rl_18 (x:Int) (w:World):Calls Tryz.prog 186 #[.int .u32 x, .int .i64 (-18)] w fun e w'=>e = .returned (.int .u32 (eB x 262144 16384))∧w=w':=by
 have hb:bits .and .u64 (IntKind.u64.wrap (-18)) 31=14:=by decide +kernel
 go_enter Tryz.func186, Tryz.ntmps186
 go_wp2
 go_ret
 exact ⟨rfl,rfl⟩
theorem rl_19 (x:Int) (w:World):Calls Tryz.prog 186 #[.int .u32 x, .int .i64 (-19)] w fun e w'=>e = .returned (.int .u32 (eB x 524288 8192))∧w=w':=by
 have hb:bits .and .u64 (IntKind.u64.wrap (-19)) 31=13:=by decide +kernel
 go_enter Tryz.func186, Tryz.ntmps186
 go_wp2
 go_ret
 exact ⟨rfl,rfl⟩
theorem rl_22 (x:Int) (w:World):Calls Tryz.prog 186 #[.int .u32 x, .int .i64 (-22)] w fun e w'=>e = .returned (.int .u32 (eB x 4194304 1024))∧w=w':=by
 have hb:bits .and .u64 (IntKind.u64.wrap (-22)) 31=10:=by decide +kernel
 go_enter Tryz.func186, Tryz.ntmps186
 go_wp2
 go_ret
 exact ⟨rfl,rfl⟩
theorem rl_25 (x:Int) (w:World):Calls Tryz.prog 186 #[.int .u32 x, .int .i64 (-25)] w fun e w'=>e = .returned (.int .u32 (eB x 33554432 128))∧w=w':=by
 have hb:bits .and .u64 (IntKind.u64.wrap (-25)) 31=7:=by decide +kernel
 go_enter Tryz.func186, Tryz.ntmps186
 go_wp2
 go_ret
 exact ⟨rfl,rfl⟩
theorem yR (w:World):(zeroValue 93).run Tryz.prog w = .ok (.agg (arr .u32 (abD 64 0))) w:=by kernel_rfl
theorem PE:(Tryz.prog.info? 93).map (·.size)=some 64:=by kernel_rfl
theorem mO:(Tryz.prog.info? 91).map (·.size)=some 8:=by kernel_rfl
theorem sizeB:(Tryz.prog.info? 26).map (·.size)=some 64:=by kernel_rfl
theorem nL (w:World):(sizeOf 5).run Tryz.prog w = .ok 1 w:=by kernel_rfl
def KV:Array (Nat×Value):=((K.map (Value.int .u32)).zipIdx.map fun x=>(x.2,x.1)).toArray
theorem build_K (w:World):(Instr.build 93 KV).run Tryz.prog w = .ok (.agg (arr .u32 K)) w:=by kernel_rfl
theorem ZR (w:World):(Instr.build 147 #[(0, .agg (arr .u32 H0)),(1, .agg (arr .u32 K))]).run Tryz.prog w = .ok (.agg (jo H0 (abD 64 0) 0 0)) w:=by kernel_rfl
theorem Nr (w:World):Calls Tryz.prog 139 #[] w fun e w'=>e = .returned (.agg (arr .u32 K))∧Below w.heap.size w w':=by
 have z1:(Tryz.prog.info? 93).map (·.size)=some (arr .u32 K).size:=by rw [aD,lW];exact PE
 have s1:(arr .u32 K).size=(arr .u32 (abD 64 0)).size:=by rw [aD,aD,lW,acG]
 have b1:(w.alloc (.cells (arr .u32 (abD 64 0)) 93)).heap[w.heap.size]? = some (.cells (arr .u32 (abD 64 0)) 93 (0,0)):=aH w _
 have Z1:=abC z1
 have S1:=abC s1
 have B1:=abC b1
 clear z1 s1 b1
 go_enter Tryz.func139, Tryz.ntmps139
 go_wp2_with (first|((with_reducible refine aS 0 ?_);refine ah rfl 93 rfl _ (yR _) ?_)|((with_reducible refine aS 1 ?_);refine wpList_build rfl 93 _ rfl KV (by kernel_rfl) _ (build_K _) ?_)|((with_reducible show wpList _ _ _ (Oper.mk none _ _ _ _ _ :: _) _ _);refine au rfl 93 _ _ rfl w.heap.size _ _ 93 B1.out rfl rfl S1.out Z1.out (ak _ _) ?_;intro w2 hb2 hk2 hz2;have HB2:=abC hb2;have wI:=abC hk2;clear hb2 hk2 hz2))
 (try simp only [Exit.inBlock,Exit.then])
 refine bodyPost_ret (results_cell_row rfl _ _ w.heap.size 93 _ (0,0) _ rfl HB2.out Tryz.underlying93 rfl Z1.out) rfl ?_
 exact ⟨rfl,(((Kept.refl (fun i=>i=w.heap.size) w).alloc _).trans wI.out).toBelow (abQ _) (by rintro i rfl;exact abQ _)⟩
theorem Uw (w:World):Calls Tryz.prog 93 #[] w fun e w'=>∃ p,e = .returned (.pointer (some ⟨p,0,none⟩))∧bE w' p H0 (abD 64 0) 0 0∧w.heap.size≤p∧Below w.heap.size w w':=by
 go_enter Tryz.func93, Tryz.ntmps93
 go_wp2_with (first|(go_at_call 139; refine (Nr _).mono ?_;rintro e w1 ⟨rfl,hb1⟩)|((with_reducible refine aS 3 ?_);refine wpList_build rfl 147 _ rfl #[(0, .agg (arr .u32 H0)),(1, .agg (arr .u32 K))] rfl _ (ZR _) ?_))
 go_ret
 refine ⟨w1.heap.size,rfl,⟨aH _ _,rfl,by simp⟩,hb1.size,hb1.alloc hb1.size _⟩
end Go.Proofs.YthdgbgleklkaiaaGreatDoor.Ha
namespace Go.Proofs.YthdgbgleklkaiaaGreatDoor.Ha
open Go.RowKit
theorem bq (k:IntKind) (xs:List Int) (i:Nat) (v:Int):(arr k xs).setIfInBounds i (.int k v)=arr k (xs.set i v):=by
 unfold arr
 rw [xH,abT]
theorem RU {h b:List Int} (n l:Int) (hl:h.length=8):((jo h b n l).toList.drop 72).take b.length=b.map (Value.int .u8):=by
 have kl:=lW
 rw [zx,← List.append_assoc,List.drop_append_of_le_length (by simp [hl,kl]),abN (by simp [hl,kl])]
 simp
theorem RS (h b:List Int) (n l:Int):((jo h b n l).toList.drop 0).take h.length=h.map (Value.int .u32):=by
 rw [zx]
 simp
theorem aJ {w:World} {g:Nat} {k:IntKind} {xs:List Int} {t:TypeId} {fr:Nat×Nat} (h:w.heap[g]? = some (.cells (arr k xs) t fr)) (i:Nat) (hi:i < xs.length):w.cell? ⟨g,i,none⟩=some (.int k (xs.getD i 0)):=by
 rw [aF h,uq _ _ _ hi]
theorem bJ {w:World} {g:Nat} {k:IntKind} {xs:List Int} {t:TypeId} (h:w.heap[g]? = some (.cells (arr k xs) t (0,0))) (i:Nat) (v:Int):(w.setCell ⟨g,i,none⟩ (.int k v)).heap[g]? = some (.cells (arr k (xs.set i v)) t (0,0)):=by
 rw [aQ h,bq]
theorem byte_at {b:List Int} (hb:∀ x∈b,0≤x∧x≤255) (j:Nat):0≤b.getD j 0∧b.getD j 0≤255:=by
 simp only [abE]
 cases e:b[j]? with
 | none=>simp
 | some y=>simpa using hb y (List.mem_of_getElem? e)
theorem flat4 (a b c d:Int):(a+b+c+d) % 4294967296=add (add (add a b) c) d:=by
 simp only [add,IntKind.wrap_u32]
 omega
theorem R4 (p:Nat) (h b:List Int) (n l:Int) (w:World) (s:bE w p h b n l) (hb:∀ x∈b,0≤x∧x≤255) :
  Calls Tryz.prog 185 #[.pointer (some ⟨p,0,none⟩)] w fun e w'=>e = .returned (.agg (arr .u32 (sched b 48)))∧Below w.heap.size w w':=by
 have hs2:=((s.alloc (.cells (arr .u32 (abD 64 0)) 93)).alloc (.cells (arr .u32 (abD 64 0)) 93)).blk
 have hp2:=RU (b:=b) n l s.hl
 have hz2:(Tryz.prog.info? 26).map (·.size)=some b.length:=by rw [s.bl];exact sizeB
 have hst:((w.alloc (.cells (arr .u32 (abD 64 0)) 93)).alloc (.cells (arr .u32 (abD 64 0)) 93)).heap[w.heap.size+1]? = some (.cells (arr .u32 (pre b 0)) 93 (0,0)) ∧
   ((w.alloc (.cells (arr .u32 (abD 64 0)) 93)).alloc (.cells (arr .u32 (abD 64 0)) 93)).heap[w.heap.size]? = some (.cells (arr .u32 (abD 64 0)) 93 (0,0)) ∧
   Below w.heap.size w ((w.alloc (.cells (arr .u32 (abD 64 0)) 93)).alloc (.cells (arr .u32 (abD 64 0)) 93)):=by
  refine ⟨?_,aY (aH w _) _,((Below.refl _ w).alloc (abQ _) _).alloc (by simp) _⟩
  have:=aH (w.alloc (.cells (arr .u32 (abD 64 0)) 93)) (.cells (arr .u32 (abD 64 0)) 93)
  rw [show (w.alloc (.cells (arr .u32 (abD 64 0)) 93)).heap.size=w.heap.size+1 by simp] at this
  rw [jW]
  exact this
 have hix:=fun (j:Nat) (hj:j < 64) (w:World)=>Cr (P := Tryz.prog) w 26 5 64 .u8 .u8 .i64 Tryz.underlying26 Tryz.underlying5 nL b s.bl j hj
 have HS2:=abC hs2
 have Ej:=abC hp2
 have HZ2:=abC hz2
 have HST:=abC hst
 have HIX:=abC hix
 clear hs2 hp2 hz2 hst hix s
 go_enter Tryz.func185, Tryz.ntmps185
 go_wp2_with (first|((with_reducible refine aS 2 ?_);refine ah rfl 93 rfl _ (yR _) ?_)|((with_reducible refine aS 3 ?_);refine ah rfl 93 rfl _ (yR _) ?_)|((with_reducible refine aS 14 ?_);refine aB rfl 26 _ rfl p 72 _ 147 (0,0) _ HS2.out rfl .u8 b Ej.out Tryz.underlying26 rfl HZ2.out ?_))
 go_loopw [15] (fun i wr=>∃ j:Nat,j≤64∧i = .int .i64 j∧wr.heap[w.heap.size+1]? = some (.cells (arr .u32 (pre b j)) 93 (0,0))∧wr.heap[w.heap.size]? = some (.cells (arr .u32 (abD 64 0)) 93 (0,0))∧Below w.heap.size w wr) (fun i _=>64 - (intOf i).toNat)
 case atStart=>exact ⟨0,Nat.zero_le _,rfl,HST.out.1,HST.out.2.1,HST.out.2.2⟩
 case round =>
  obtain ⟨j,hj,rfl,g1,g2,hbw⟩:=hrel
  by_cases hlt:j < 64
  ·have x0:=HIX.out j hlt
   have x1:=aJ g1 (j / 4) (by rw [yx];omega)
   have x2:=aC g1 (j / 4)
   obtain ⟨b0,b1⟩:=byte_at hb j
   have G1:=abC (bJ g1 (j / 4) (bits .or .u32 (IntKind.u32.wrap ((pre b j).getD (j / 4) 0 * 256)) (b.getD j 0)))
   rw [← zO b j hlt] at G1
   have G2:=abC g2
   have qK:=abC hbw
   clear g1 g2 hbw
   generalize (pre b j).getD (j / 4) 0=y at x1 G1
   generalize b.getD j 0=x at x0 b0 b1 G1
   go_wp2
   go_roundw
   case rel=>exact ⟨j+1,by omega,by go_num,G1.out,ay G2.out _ (by omega),qK.out.setCell (p:=⟨w.heap.size+1,j / 4,none⟩) (by simp) _⟩
   case measure=>simp [intOf];omega
  ·have ej:j=64:=by omega
   obtain ⟨wo,rfl⟩:∃ wo:World,wo=wr:=⟨_,rfl⟩
   rw [ej] at g1
   clear ej
   have G1:=abC g1
   have G2:=abC g2
   have qK:=abC hbw
   clear g1 g2 hbw
   go_wp2_with fail
   go_loopw [6] (fun i wr=>∃ t:Nat,16≤t∧t≤64∧i = .int .i64 t∧wr.heap[w.heap.size+1]? = some (.cells (arr .u32 (sched b (t - 16))) 93 (0,0))∧wr.heap[w.heap.size]? = some (.cells (arr .u32 (abD 64 0)) 93 (0,0))∧Below w.heap.size w wr) (fun i _=>64 - (intOf i).toNat)
   case atStart=>exact ⟨16,by omega,by omega,rfl,G1.out,G2.out,qK.out⟩
   case round =>
    obtain ⟨t,h16,ht,rfl,g1,g2,hbw⟩:=hrel
    by_cases hlt:t < 64
    ·have hsl:=gY b (t - 16)
     have x2:=aJ g1 (t - 2) (by omega)
     have x7:=aJ g1 (t - 7) (by omega)
     have x15:=aJ g1 (t - 15) (by omega)
     have x16:=aJ g1 (t - 16) (by omega)
     have xt:=aJ g1 t (by omega)
     have xf:=aC g1 t
     have hnx:sched b (t - 16+1)=(sched b (t - 16)).set t (next (sched b (t - 16)) t):=by
      have:=jK b (t - 16)
      rwa [show 16+(t - 16)=t by omega] at this
     have g1':=bJ g1 t (next (sched b (t - 16)) t)
     rw [← hnx,show t - 16+1=t+1 - 16 by omega] at g1'
     have G1:Hid (∀ v,v=next (sched b (t - 16)) t→(wr.setCell ⟨w.heap.size+1,t,none⟩ (.int .u32 v)).heap[w.heap.size+1]? = some (.cells (arr .u32 (sched b (t+1 - 16))) 93 (0,0))):=abC (by rintro v rfl;exact g1')
     have G2:=abC g2
     have qK:=abC hbw
     clear g1 g1' g2 hbw hsl hnx
     unfold next at G1
     generalize (sched b (t - 16)).getD (t - 2) 0=y2 at x2 G1
     generalize (sched b (t - 16)).getD (t - 7) 0=y7 at x7 G1
     generalize (sched b (t - 16)).getD (t - 15) 0=y15 at x15 G1
     generalize (sched b (t - 16)).getD (t - 16) 0=y16 at x16 G1
     have i15:IntKind.i64.wrap ((t:Int) - 15)=(t:Int) - 15:=IntWalk.i64_in _ (by omega)
     have i2:IntKind.i64.wrap ((t:Int) - 2)=(t:Int) - 2:=IntWalk.i64_in _ (by omega)
     have i7:IntKind.i64.wrap ((t:Int) - 7)=(t:Int) - 7:=IntWalk.i64_in _ (by omega)
     have i16:IntKind.i64.wrap ((t:Int) - 16)=(t:Int) - 16:=IntWalk.i64_in _ (by omega)
     have n15:((t:Int) - 15).toNat=t - 15:=by omega
     have n2:((t:Int) - 2).toNat=t - 2:=by omega
     have n7:((t:Int) - 7).toNat=t - 7:=by omega
     have n16:((t:Int) - 16).toNat=t - 16:=by omega
     go_wp2_with fail
     go_region
     go_wp2_with (go_at_call 186; first|((with_reducible refine (rl_7 _ _).mono ?_);rintro e w' ⟨rfl,rfl⟩)|((with_reducible refine (rl_17 _ _).mono ?_);rintro e w' ⟨rfl,rfl⟩)|((with_reducible refine (rl_18 _ _).mono ?_);rintro e w' ⟨rfl,rfl⟩)|((with_reducible refine (rl_19 _ _).mono ?_);rintro e w' ⟨rfl,rfl⟩))
     go_region
     clear i15 i2 i7 i16 n15 n2 n7 n16
     go_wp2_with fail
     go_roundw
     case rel=>exact ⟨t+1,by omega,by omega,by go_num,G1.out _ (flat4 (s1 y2) y7 (s0 y15) y16),ay G2.out _ (by omega),((qK.out.setCell (p:=⟨w.heap.size+1,t,none⟩) (by simp) _).drew).drew⟩
     case measure=>simp [intOf];omega
    ·obtain rfl:t=64:=by omega
     have z1:(Tryz.prog.info? 93).map (·.size)=some (sched b 48).length:=by rw [gY];exact PE
     have z2:(Tryz.prog.info? 93).map (·.size)=some (arr .u32 (sched b 48)).size:=by rw [aD,gY];exact PE
     have z3:(arr .u32 (sched b 48)).size=(arr .u32 (abD 64 0)).size:=by rw [aD,aD,gY,acG]
     have z4:((arr .u32 (sched b 48)).toList.drop 0).take (sched b 48).length=(sched b 48).map (Value.int .u32):=by rw [bN,List.drop_zero,abU (by simp)]
     have G1:=abC g1
     have G2:=abC g2
     have qK:=abC hbw
     have Z1:=abC z1
     have Z2:=abC z2
     have Z3:=abC z3
     have Z4:=abC z4
     clear g1 g2 hbw z1 z2 z3 z4
     go_wp2_with (first|((with_reducible refine aS 74 ?_);refine aB rfl 93 _ rfl (w.heap.size+1) 0 _ 93 (0,0) _ G1.out rfl .u32 (sched b 48) Z4.out Tryz.underlying93 rfl Z1.out ?_)|((with_reducible show wpList _ _ _ (Oper.mk none _ _ _ _ _ :: _) _ _);refine au rfl 93 _ _ rfl w.heap.size _ _ 93 G2.out rfl rfl Z3.out Z2.out (ak _ _) ?_;intro w2 hb2 hk2 hz2;have HB2:=abC hb2;have wI:=abC hk2;clear hb2 hk2 hz2))
     (try simp only [Exit.inBlock,Exit.then])
     refine bodyPost_ret (results_cell_row rfl _ _ w.heap.size 93 _ (0,0) _ rfl HB2.out Tryz.underlying93 rfl Z2.out) rfl ?_
     exact ⟨rfl,qK.out.trans (wI.out.toBelow qK.out.size (by rintro i rfl;exact abQ _))⟩
end Go.Proofs.YthdgbgleklkaiaaGreatDoor.Ha
namespace Go.Proofs.YthdgbgleklkaiaaGreatDoor.Ha
open Go.RowKit
theorem S.take_len (s:S) (x:Int):(s.take x).h.length=s.h.length∧(s.take x).b.length=s.b.length:=by
 unfold S.take
 split
 ·exact ⟨pY _ _,by simp⟩
 ·exact ⟨rfl,by simp⟩
theorem S.og:∀ (xs:List Int) (s:S),(s.all xs).h.length=s.h.length∧(s.all xs).b.length=s.b.length
 | [],_=>⟨rfl,rfl⟩
 | x :: xs,s=>by
  have:=S.og xs (s.take x)
  have h:=S.take_len s x
  exact ⟨this.1.trans h.1,this.2.trans h.2⟩
theorem set_mid (a b:List Int) (i:Nat) (x:Int) (ha:a.length=i) (hb:i < b.length):(a ++ b.drop i).set i x=a ++ [x] ++ b.drop (i+1):=by
 rw [abJ _ _ (by omega),ha,Nat.sub_self,List.drop_eq_getElem_cons hb,List.set_cons_zero]
 simp
theorem S.Gj (s:S) (bl:List Int) (hn:s.n=0) (hb:s.b.length=64) (hl:bl.length=64):∀ i,i < 64→s.all (bl.take i)=⟨s.h,bl.take i ++ s.b.drop i,i⟩:=by
 intro i
 induction i with
 | zero =>
  intro _
  obtain ⟨h,b,n⟩:=s
  simp only at hn
  subst hn
  simp [S.all]
 | succ i ih =>
  intro hi
  have e:bl.take (i+1)=bl.take i ++ [bl.getD i 0]:=by
   rw [acH (by omega)]
   simp [abE,show i < bl.length by omega]
  rw [e,S.jC,ih (by omega),S.take,if_neg (by show ¬ i+1=_;omega)]
  simp only
  rw [set_mid _ _ _ _ (by simp;omega) (by omega)]
theorem S.vJ (s:S) (bl:List Int) (hn:s.n=0) (hb:s.b.length=64) (hl:bl.length=64):s.all bl=⟨comp s.h bl,bl,0⟩:=by
 have e:bl=bl.take (64 - 1) ++ [bl.getD (64 - 1) 0]:=by
  have:bl.take (64 - 1+1)=bl.take (64 - 1) ++ [bl.getD (64 - 1) 0]:=by
   rw [acH (by omega)]
   simp [abE,hl]
  rw [← this,abU (by omega)]
 have hd:(bl.take (64 - 1) ++ s.b.drop (64 - 1)).set (64 - 1) (bl.getD (64 - 1) 0)=bl:=by
  rw [set_mid _ _ _ _ (by simp;omega) (by omega),abN (by omega),acA,← e]
 have h1:s.all bl=(s.all (bl.take (64 - 1))).take (bl.getD (64 - 1) 0):=by rw [← S.jC,← e]
 rw [h1,S.Gj s bl hn hb hl _ (by omega),S.take,if_pos rfl]
 simp only [hd]
def eX (pm:List Int) (q:Nat):List Int:=(pm.drop (64 * q)).take 64
def jA (pm:List Int) (q:Nat):List Int:=(S.new.all (pm.take (64 * q))).h
theorem Ls (pm:List Int) (q:Nat):(jA pm q).length=8:=(S.og _ _).1
theorem FV (pm:List Int):jA pm 0=H0:=by simp [jA,S.all,S.new]
theorem FW (pm:List Int) (q:Nat) (h:64 * (q+1)≤pm.length):jA pm (q+1)=comp (jA pm q) (eX pm q):=by
 unfold jA eX
 have e:pm.take (64 * (q+1))=pm.take (64 * q) ++ (pm.drop (64 * q)).take 64:=by rw [Nat.mul_succ,List.take_add]
 rw [e,S.all_append,S.vJ _ _ ?_ ?_ ?_]
 ·rw [S.Ee _ _ S.Ok.new.n,acI,Nat.min_eq_left (by omega)]
  show (0+64 * q) % 64=0
  omega
 ·rw [(S.og _ _).2];simp [S.new]
 ·rw [acI,abF];omega
theorem Lu (pm:List Int) (q:Nat) (h:pm.length=64 * q):(S.new.all pm).h=jA pm q:=by
 unfold jA
 rw [abU (by omega)]
theorem Gg (pm:List Int) (q j:Nat) (hj:j < 64):(eX pm q).getD j 0=pm.getD (64 * q+j) 0:=by
 unfold eX
 simp only [abE,List.getElem?_take,hj,if_true,List.getElem?_drop]
theorem zk (n:Nat):∃ q,n+(tail n).length=64 * q:=by
 refine ⟨(n+(tail n).length) / 64,?_⟩
 have:(tail n).length=1+(2 * 64 - 8 - 1 - n % 64) % 64+8:=by simp [tail];omega
 rw [this]
 omega
theorem qX (n:Nat):∀ x∈tail n,0≤x∧x≤255:=by
 intro x hx
 simp only [tail,List.mem_append,List.mem_cons,List.mem_replicate,abV,abW] at hx
 rcases hx with ((rfl|⟨_,rfl⟩)|⟨_,rfl⟩)|⟨i,_,rfl⟩
 all_goals omega
end Go.Proofs.YthdgbgleklkaiaaGreatDoor.Ha
namespace Go.Proofs.YthdgbgleklkaiaaGreatDoor.Wr
open Go.RowKit
def kM (key:List Int) (b:Int) (i:Nat):List Int:=(abH 64).map fun j=>if j < i then bits .xor .u8 (key.getD j 0) b else key.getD j 0
def pad (key:List Int) (b:Int):List Int:=kM key b 64
def Lg (key msg:List Int):List Int:=Ha.hash (pad key 92 ++ Ha.hash (pad key 54 ++ msg))
def Ii (e z:List Int):List Int:=Lg (Lg e z) [119,114,97,112,1]
theorem jX (key:List Int) (b:Int) (i:Nat):(kM key b i).length=64:=by simp [kM]
theorem Dq (key:List Int) (b:Int) (h:key.length≤64):key ++ abD (64 - key.length) 0=kM key b 0:=by
 apply abK
 ·simp [kM];omega
 ·intro i h1 h2
  simp only [kM,abR,acD,Nat.not_lt_zero,if_false]
  rw [List.getElem_append]
  split
  ·rename_i h3
   simp [abE,List.getElem?_eq_getElem h3]
  ·rename_i h3
   simp [abE,abX (Nat.not_lt.1 h3)]
theorem WM (key:List Int) (b:Int) (i:Nat) (h:i < 64):(kM key b i).getD i 0=key.getD i 0:=by
 simp [kM,abE,h]
theorem WL (key:List Int) (b:Int) (i:Nat) (h:i < 64):(kM key b i).set i (bits .xor .u8 (key.getD i 0) b)=kM key b (i+1):=by
 apply List.ext_getElem?
 intro j
 rw [List.getElem?_set]
 by_cases hj:j < 64
 ·simp only [kM,List.getElem?_map,List.getElem?_range hj,abG,acB,Option.map_some]
  by_cases e:i=j
  ·subst e
   rw [if_pos rfl,if_pos h,if_pos (by omega)]
  ·rw [if_neg e]
   by_cases h3:j < i
   ·rw [if_pos h3,if_pos (by omega)]
   ·rw [if_neg h3,if_neg (by omega)]
 ·rw [if_neg (by omega),abX (by rw [jX];omega),abX (by rw [jX];omega)]
theorem yT (a b:Int):0≤bits .xor .u8 a b∧bits .xor .u8 a b≤255:=by
 show 0≤IntKind.u8.wrap _∧IntKind.u8.wrap _≤255
 rw [IntKind.wrap_u8]
 omega
theorem Dp (key:List Int) (b:Int):bytes (pad key b):=by
 intro x hx
 simp only [pad,kM,abV,abW] at hx
 obtain ⟨j,h,rfl⟩:=hx
 rw [if_pos h]
 exact yT _ _
theorem dM (m:List Int):(Ha.hash m).length=32:=by simp [Ha.hash,Ha.digest]
theorem fu (m:List Int):bytes (Ha.hash m):=by
 intro x hx
 simp only [Ha.hash,Ha.digest,abV,abW] at hx
 obtain ⟨i,_,rfl⟩:=hx
 omega
theorem FK (k m:List Int):(Lg k m).length=32:=dM _
theorem Ti (k m:List Int):bytes (Lg k m):=fu _
theorem sM (e z:List Int):(Ii e z).length=32:=dM _
theorem Kv (e z:List Int):bytes (Ii e z):=fu _
end Go.Proofs.YthdgbgleklkaiaaGreatDoor.Wr
