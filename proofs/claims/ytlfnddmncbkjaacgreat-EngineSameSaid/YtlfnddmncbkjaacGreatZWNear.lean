import Derived.Test.YtlfnddmncbkjaacGreatZMB
set_option linter.unusedVariables false
set_option linter.unusedSimpArgs false
set_option maxRecDepth 100000
set_option maxHeartbeats 4000000
namespace Go.Proofs.YtlfnddmncbkjaacGreat.W
open Go.RowKit Fb
theorem near_any(word fr many:Int)(hw:U32 word)(hf:U32 fr)(hm:0≤many∧many≤4096)(w:World):
    Calls Tryz.prog 19 #[.int .u32 word,.int .u32 fr,.int .i64 many] w fun e w'=>e=.returned (.bool (nearB word fr many))∧w'=w:=by
  obtain⟨a,rfl⟩:=sS hw.1
  obtain⟨b,rfl⟩:=sS hf.1
  obtain⟨n,rfl⟩:=sS hm.1
  have h1:a<4294967296:=by have:=hw.2;omega
  have h2:b<4294967296:=by have:=hf.2;omega
  have h3:n≤4096:=by have:=hm.2;omega
  clear hw hf hm
  obtain⟨q,hq⟩:∃q,q=nearB (a:Int) (b:Int) (n:Int):=⟨_,rfl⟩
  rw[←hq]
  have HY:=lI (fun j h0 h1 h2 h3=>hq.trans (near_one (word:=(a:Int)) (fr:=(b:Int)) (many:=(n:Int)) (j:=j) h0 h1 h2 h3))
  have HN:=lI (fun h=>hq.trans (near_all (word:=(a:Int)) (fr:=(b:Int)) (many:=(n:Int)) h))
  clear hq
  go_enter Tryz.func19,Tryz.ntmps19
  go_wp2_with fail
  go_loopw [7] (fun i wr=>∃k:Nat,i=.int .i64 k∧k≤n∧wr=w∧Hid (∀j:Int,0≤j→j<k→¬(0≤(b:Int)+j-a∧(b:Int)+j-a<4))) (fun i _=>n-(intOf i).toNat)
  case atStart=>exact⟨0,rfl,om,rfl,lI (fun j h0 h1=>om)⟩
  case round=>
    obtain⟨k,rfl,hk,rfl,HI⟩:=hrel
    by_cases hlt:k<n
    · by_cases h4:(0:Int)≤(b:Int)+k-a
      · by_cases h5:(b:Int)+k-a<4
        · obtain rfl:=HY.out k om om h4 h5
          go_wp2_with fail
          go_ret
          exact⟨rfl,rfl⟩
        · go_wp2_with fail
          go_roundw
          case rel=>exact⟨k+1,by simp,om,(by trivial),lI (fun j h0 h1=>by
            by_cases e:j=k
            · subst e;omega
            · exact HI.out j h0 om)⟩
          case measure=>simp[intOf];omega
      · go_wp2_with fail
        go_roundw
        case rel=>exact⟨k+1,by simp,om,(by trivial),lI (fun j h0 h1=>by
          by_cases e:j=k
          · subst e;omega
          · exact HI.out j h0 om)⟩
        case measure=>simp[intOf];omega
    · obtain rfl:k=n:=om
      obtain rfl:=HN.out HI.out
      go_wp2_with fail
      go_ret
      exact⟨rfl,rfl⟩
end Go.Proofs.YtlfnddmncbkjaacGreat.W
