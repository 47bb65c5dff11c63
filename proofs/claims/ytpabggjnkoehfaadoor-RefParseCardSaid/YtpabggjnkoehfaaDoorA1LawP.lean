/- The printed law RefParse answers true, whatever the text. -/
import Derived.Test.YtpabggjnkoehfaaDoorA1Begun
import Derived.Test.YtpabggjnkoehfaaDoorA1Ref
import Derived.Test.YtpabggjnkoehfaaDoorERef8
namespace Go.Proofs.YtpabggjnkoehfaaDoor.ERef
open Go.RowKit Go.Lib Go.Proofs.YtpabggjnkoehfaaDoorW.PrintWords Go.Proofs.YtpabggjnkoehfaaDoorW.PrintLast Go.Proofs.YtpabggjnkoehfaaDoor.Ext Go.Proofs.YtpabggjnkoehfaaDoor.A1
theorem refParse_pure (s : ByteArray) : counterpanelaw5_RefParse.f 300 s = some true := by
  obtain ⟨b, hb, hz⟩ := short_f s 60
  have hb' : counterpanelaw5_Short.f s 60 = some b := hb
  unfold counterpanelaw5_RefParse.f
  rw [begun_f 300 (by omega), Option.bind_some, if_pos rfl, hb', Option.bind_some, parse_f 300 b (by omega) (by omega), ref_f 300 b (by omega) (by omega), col_f 300 (by omega), refcol_f 300 (by omega)]
  simp only [Option.bind_some, same_f]
  rw [if_pos (by simp), if_pos trivial, if_pos (by simp), if_pos trivial, id_f b (by omega), refid_f 300 b (by omega) (by omega), owner_f b (by omega), refowner_f 300 b (by omega) (by omega)]
  simp
end Go.Proofs.YtpabggjnkoehfaaDoor.ERef
